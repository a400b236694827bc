/- Texts of this claim, one behind the other. -/
import Derived.Test.YtjeenmabclghoaaA1
import Derived.Laws.Bits64b
import Derived.Deep.Slices
import Derived.Deep.Fields
import Derived.ChangeSame
import Derived.Lib.SmallJoins
import Derived.ProofKit
import Derived.ChangeArms
import Derived.RangeFuncSeq
import Derived.Conc.LoneCalls
import Derived.Conc.LoneSelectN
import Derived.Conc.SmallLaws
import Derived.Laws.StructEq
import Derived.Scope
import Derived.ChangeKeysEq
set_option linter.unusedVariables false
set_option linter.unusedSimpArgs false
namespace Go.Acq
open Go
set_option linter.unusedVariables false
structure Answer where
  Flow : List Int
  Side : List Bool
  Value : Int
  deriving DecidableEq
instance : Inhabited Answer := ⟨⟨default, default, default⟩⟩
structure Work where
  Pushes : Int
  Lifts : Int
  deriving DecidableEq
instance : Inhabited Work := ⟨⟨default, default⟩⟩
structure FifoRun where
  c : Csr
  p : Pre
  row : Chan
  ins : List Bool
  work : Work
  deriving DecidableEq
instance : Inhabited FifoRun := ⟨⟨default, default, default, default, default⟩⟩
def Z36 (r0 : FifoRun) (v1 : Int) (b11 : Bool) : Option (FifoRun) :=
  if b11 = true then
  (gd (inb v1 r0.ins.length) <|
  gd (r0.row.buf.length < r0.row.cap) <|
  some (FifoRun.mk r0.c r0.p (Chan.put r0.row v1) (r0.ins.set v1.toNat true) r0.work))
  else
  some r0
def Z37 (r0 : FifoRun) (v1 : Int) (b8 : Bool) : Option (FifoRun) :=
  if b8 = true then
  (gd (inb v1 r0.ins.length) <|
  Z36 r0 v1 (!(r0.ins.getD v1.toNat false)))
  else
  Z36 r0 v1 false
def Z3s (r0 : FifoRun) (v1 : Int) (b5 : Bool) : Option (FifoRun) :=
  if b5 = true then
  (gd (inb v1 r0.p.Ex.length) <|
  Z37 r0 v1 (decide (0 < (r0.p.Ex.getD v1.toNat 0))))
  else
  Z37 r0 v1 false
def Z46 (r0 : FifoRun) (v1 : Int) : Option (FifoRun) :=
  if v1 ≠ r0.c.S then
  (Z3s r0 v1 (decide (v1 ≠ r0.c.T)))
  else
  Z3s r0 v1 false
def Z6i (pr0 : FifoRun) : Option (Int × Bool × FifoRun) :=
  if pr0.row.buf = [] then
  (some (0, false, pr0))
  else
  gd (inb (pr0.row.buf.getD 0 0) pr0.ins.length) <|
  some ((pr0.row.buf.getD 0 0), true, (FifoRun.mk pr0.c pr0.p (Chan.cut pr0.row) (pr0.ins.set (pr0.row.buf.getD 0 0).toNat false) pr0.work))
def Z51 (r0 : FifoRun) (u1 : Int) (a2 : Int) : Option (FifoRun) :=
  gd (inb a2 r0.c.Rev.length) <|
  gd (inb a2 r0.c.Head.length) <|
  gd (inb u1 r0.p.Ex.length) <|
  gd (inb a2 r0.p.Res.length) <|
  gd (inb a2 r0.p.Res.length) <|
  gd (i64ok ((r0.p.Res.getD a2.toNat 0) - (min (r0.p.Ex.getD u1.toNat 0) (r0.p.Res.getD a2.toNat 0)))) <|
  gd (inb a2 r0.p.Res.length) <|
  gd (inb (r0.c.Rev.getD a2.toNat 0) (r0.p.Res.set a2.toNat ((r0.p.Res.getD a2.toNat 0) - (min (r0.p.Ex.getD u1.toNat 0) (r0.p.Res.getD a2.toNat 0)))).length) <|
  gd (i64ok (((r0.p.Res.set a2.toNat ((r0.p.Res.getD a2.toNat 0) - (min (r0.p.Ex.getD u1.toNat 0) (r0.p.Res.getD a2.toNat 0)))).getD (r0.c.Rev.getD a2.toNat 0).toNat 0) + (min (r0.p.Ex.getD u1.toNat 0) (r0.p.Res.getD a2.toNat 0)))) <|
  gd (inb (r0.c.Rev.getD a2.toNat 0) (r0.p.Res.set a2.toNat ((r0.p.Res.getD a2.toNat 0) - (min (r0.p.Ex.getD u1.toNat 0) (r0.p.Res.getD a2.toNat 0)))).length) <|
  gd (inb u1 r0.p.Ex.length) <|
  gd (i64ok ((r0.p.Ex.getD u1.toNat 0) - (min (r0.p.Ex.getD u1.toNat 0) (r0.p.Res.getD a2.toNat 0)))) <|
  gd (inb u1 r0.p.Ex.length) <|
  gd (inb (r0.c.Head.getD a2.toNat 0) (r0.p.Ex.set u1.toNat ((r0.p.Ex.getD u1.toNat 0) - (min (r0.p.Ex.getD u1.toNat 0) (r0.p.Res.getD a2.toNat 0)))).length) <|
  gd (i64ok (((r0.p.Ex.set u1.toNat ((r0.p.Ex.getD u1.toNat 0) - (min (r0.p.Ex.getD u1.toNat 0) (r0.p.Res.getD a2.toNat 0)))).getD (r0.c.Head.getD a2.toNat 0).toNat 0) + (min (r0.p.Ex.getD u1.toNat 0) (r0.p.Res.getD a2.toNat 0)))) <|
  gd (inb (r0.c.Head.getD a2.toNat 0) (r0.p.Ex.set u1.toNat ((r0.p.Ex.getD u1.toNat 0) - (min (r0.p.Ex.getD u1.toNat 0) (r0.p.Res.getD a2.toNat 0)))).length) <|
  gd (i64ok (r0.work.Pushes + 1)) <|
  Option.bind (Z46 (FifoRun.mk r0.c (Pre.mk ((r0.p.Res.set a2.toNat ((r0.p.Res.getD a2.toNat 0) - (min (r0.p.Ex.getD u1.toNat 0) (r0.p.Res.getD a2.toNat 0)))).set (r0.c.Rev.getD a2.toNat 0).toNat (((r0.p.Res.set a2.toNat ((r0.p.Res.getD a2.toNat 0) - (min (r0.p.Ex.getD u1.toNat 0) (r0.p.Res.getD a2.toNat 0)))).getD (r0.c.Rev.getD a2.toNat 0).toNat 0) + (min (r0.p.Ex.getD u1.toNat 0) (r0.p.Res.getD a2.toNat 0)))) ((r0.p.Ex.set u1.toNat ((r0.p.Ex.getD u1.toNat 0) - (min (r0.p.Ex.getD u1.toNat 0) (r0.p.Res.getD a2.toNat 0)))).set (r0.c.Head.getD a2.toNat 0).toNat (((r0.p.Ex.set u1.toNat ((r0.p.Ex.getD u1.toNat 0) - (min (r0.p.Ex.getD u1.toNat 0) (r0.p.Res.getD a2.toNat 0)))).getD (r0.c.Head.getD a2.toNat 0).toNat 0) + (min (r0.p.Ex.getD u1.toNat 0) (r0.p.Res.getD a2.toNat 0)))) r0.p.H) r0.row r0.ins (Work.mk (r0.work.Pushes + 1) r0.work.Lifts)) (r0.c.Head.getD a2.toNat 0)) fun r23 =>
  some (FifoRun.mk r0.c (Pre.mk ((r0.p.Res.set a2.toNat ((r0.p.Res.getD a2.toNat 0) - (min (r0.p.Ex.getD u1.toNat 0) (r0.p.Res.getD a2.toNat 0)))).set (r0.c.Rev.getD a2.toNat 0).toNat (((r0.p.Res.set a2.toNat ((r0.p.Res.getD a2.toNat 0) - (min (r0.p.Ex.getD u1.toNat 0) (r0.p.Res.getD a2.toNat 0)))).getD (r0.c.Rev.getD a2.toNat 0).toNat 0) + (min (r0.p.Ex.getD u1.toNat 0) (r0.p.Res.getD a2.toNat 0)))) ((r0.p.Ex.set u1.toNat ((r0.p.Ex.getD u1.toNat 0) - (min (r0.p.Ex.getD u1.toNat 0) (r0.p.Res.getD a2.toNat 0)))).set (r0.c.Head.getD a2.toNat 0).toNat (((r0.p.Ex.set u1.toNat ((r0.p.Ex.getD u1.toNat 0) - (min (r0.p.Ex.getD u1.toNat 0) (r0.p.Res.getD a2.toNat 0)))).getD (r0.c.Head.getD a2.toNat 0).toNat 0) + (min (r0.p.Ex.getD u1.toNat 0) (r0.p.Res.getD a2.toNat 0)))) r0.p.H) r23.row r23.ins (Work.mk (r0.work.Pushes + 1) r0.work.Lifts))
def Z3t (r0 : FifoRun) (u1 : Int) (least9 : Int) (a10 : Int) : Option ((Int × Int) ⊕ (FifoRun ⊕ Int)) :=
  gd (i64ok (u1 + 1)) <|
  gd (inb (u1 + 1) r0.c.First.length) <|
  if a10 < (r0.c.First.getD (u1 + 1).toNat 0) then
  (gd (inb a10 r0.p.Res.length) <|
  if (r0.p.Res.getD a10.toNat 0) = 0 then
  (gd (i64ok (a10 + 1)) <|
  some (.inl (least9, (a10 + 1))))
  else
  gd (inb a10 r0.c.Head.length) <|
  gd (inb (r0.c.Head.getD a10.toNat 0) r0.p.H.length) <|
  gd (inb u1 r0.p.H.length) <|
  gd (i64ok ((r0.p.H.getD (r0.c.Head.getD a10.toNat 0).toNat 0) + 1)) <|
  if (r0.p.H.getD u1.toNat 0) = ((r0.p.H.getD (r0.c.Head.getD a10.toNat 0).toNat 0) + 1) then
  (Option.bind (Z51 r0 u1 a10) fun r22 =>
  some (.inr (.inl (FifoRun.mk r0.c (Pre.mk r22.p.Res r22.p.Ex r0.p.H) r22.row r22.ins (Work.mk r22.work.Pushes r0.work.Lifts)))))
  else
  gd (i64ok (a10 + 1)) <|
  some (.inl ((min least9 (r0.p.H.getD (r0.c.Head.getD a10.toNat 0).toNat 0)), (a10 + 1))))
  else
  some (.inr (.inr least9))
def Z4v (r0 : FifoRun) (u1 : Int) (least30 : Int) : Option (FifoRun) :=
  gd (i64ok (least30 + 1)) <|
  gd (inb u1 r0.p.H.length) <|
  gd (i64ok (r0.work.Lifts + 1)) <|
  some (FifoRun.mk r0.c (Pre.mk r0.p.Res r0.p.Ex (r0.p.H.set u1.toNat (least30 + 1))) r0.row r0.ins (Work.mk r0.work.Pushes (r0.work.Lifts + 1)))
def Z52 (r0 : FifoRun) (u1 : Int) : Option (FifoRun) :=
  gd (i64ok (2 * r0.c.N)) <|
  gd (inb u1 r0.c.First.length) <|
  Option.bind (Z2k (fun s => Z3t r0 u1 s.1 s.2) Z4t ((2 * r0.c.N), (r0.c.First.getD u1.toNat 0))) fun o => match o with | .inl p1_0_0 => (some p1_0_0) | .inr p1_1_0 => (Z4v r0 u1 p1_1_0)
def Z6k (c0 : Csr) (r9 : Pre) (ch46 : Chan) (xs49 : List Bool) (x51 : Int) : Option ((Chan × List Bool × Int) ⊕ (Chan × List Bool)) :=
  if x51 < c0.N then
  (Option.bind (Z46 (FifoRun.mk c0 r9 ch46 xs49 (Work.mk 0 0)) x51) fun r53 =>
  gd (i64ok (x51 + 1)) <|
  some (.inl (r53.row, r53.ins, (x51 + 1))))
  else
  some (.inr (ch46, xs49))
def Z5e (c0 : Csr) (r77 : Int) (xs85 : List Int) (xs87 : List Int) (xs89 : List Int) (ch91 : Chan) (xs94 : List Bool) (work96 : Int) (work97 : Int) : Option ((List Int × List Int × List Int × Chan × List Bool × Int × Int) ⊕ (List Int × List Int × List Int × Chan × List Bool × Int × Int)) :=
  gd (inb r77 xs87.length) <|
  if 0 < (xs87.getD r77.toNat 0) then
  (Option.bind (Z52 (FifoRun.mk c0 (Pre.mk xs85 xs87 xs89) ch91 xs94 (Work.mk work96 work97)) r77) fun r100 =>
  some (.inl (r100.p.Res, r100.p.Ex, r100.p.H, r100.row, r100.ins, r100.work.Pushes, r100.work.Lifts)))
  else
  some (.inr (xs85, xs87, xs89, ch91, xs94, work96, work97))
def Z6j (c0 : Csr) (xs64 : List Int) (xs66 : List Int) (xs68 : List Int) (ch70 : Chan) (xs73 : List Bool) (work75 : Int) (work76 : Int) : Option ((List Int × List Int × List Int × Chan × List Bool × Int × Int) ⊕ (Pre × Work)) :=
  Option.bind (Z6i (FifoRun.mk c0 (Pre.mk xs64 xs66 xs68) ch70 xs73 (Work.mk work75 work76))) fun (r77, r78, r79) =>
  if (!r78) = true then
  (some (.inr ((Pre.mk xs64 xs66 xs68), (Work.mk work75 work76))))
  else
  Option.bind (Z2k (fun s => Z5e c0 r77 s.1 s.2.1 s.2.2.1 s.2.2.2.1 s.2.2.2.2.1 s.2.2.2.2.2.1 s.2.2.2.2.2.2) Z4t (xs64, xs66, xs68, r79.row, r79.ins, work75, work76)) fun (p4_0_0, p4_0_1, p4_0_2, p4_0_3, p4_0_4, p4_0_5, p4_0_6) => some (.inl (p4_0_0, p4_0_1, p4_0_2, p4_0_3, p4_0_4, p4_0_5, p4_0_6))
def Z8a (c0 : Csr) (r9 : Pre) (ch59 : Chan) (xs62 : List Bool) : Option (Pre × Work) :=
  Option.bind (Z2k (fun s => Z6j c0 s.1 s.2.1 s.2.2.1 s.2.2.2.1 s.2.2.2.2.1 s.2.2.2.2.2.1 s.2.2.2.2.2.2) Z4t (r9.Res, r9.Ex, r9.H, ch59, xs62, 0, 0)) fun (p3_0_0, p3_0_1) => some (p3_0_0, p3_0_1)
def Z9o (c0 : Csr) (p1 : Pre) : Option (Pre × Work) :=
  Option.bind (Z9l p1) fun r9 =>
  gd (chok c0.N 8) <|
  gd (mkok c0.N) <|
  Option.bind (Z2k (fun s => Z6k c0 r9 s.1 s.2.1 s.2.2) Z4t ((Chan.mk c0.N.toNat []), (List.replicate c0.N.toNat (false : Bool)), 0)) fun (p1_0_0, p1_0_1) => Z8a c0 r9 p1_0_0 p1_0_1
def Z33 (n0 : Net) : Option (Answer × Work × Int) :=
  Option.bind (Z8h n0) fun (r7, r8) =>
  if r8 ≠ 0 then
  (some ((Answer.mk ([]) ([]) 0), (Work.mk 0 0), r8))
  else
  Option.bind (Z8r r7) fun r67 =>
  Option.bind (Z9o r7 r67) fun (r96, r97) =>
  Option.bind (Z8i r7 r96.Res (n0.Arcs.length : Int)) fun (r130, r131) =>
  if r131 ≠ 0 then
  (some ((Answer.mk ([]) ([]) 0), (Work.mk 0 0), r131))
  else
  Option.bind (Zcl n0 r130) fun (r143, r144) =>
  if r144 ≠ 0 then
  (some ((Answer.mk ([]) ([]) 0), (Work.mk 0 0), r144))
  else
  gd (inb n0.T r96.Ex.length) <|
  some ((Answer.mk r130 r143 (r96.Ex.getD n0.T.toNat 0)), r97, 0)
end Go.Acq
namespace Go.Acq
open Go
set_option linter.unusedVariables false
def Z3h (a0 : Answer) (b1 : Answer) : Option (Bool) :=
  Option.bind (Z6o a0.Flow b1.Flow) fun r6 =>
  if r6 = true then
  (Option.bind (Z6p a0.Side b1.Side) fun r9 =>
  if r9 = true then
  (some (decide (a0.Value = b1.Value)))
  else
  some false)
  else
  some false
def Z3i (b83 : Bool) : Option (Bool) :=
  some b83
def Z3j (r12 : Answer) (r40 : Answer) (r41 : Work) (b67 : Bool) : Option (Bool) :=
  if b67 = true then
  (Option.bind (Z3h r12 (Answer.mk ([5, 4, 3, 6, 2]) ([true, true, true, false]) 9)) fun r73 =>
  if r73 = true then
  (Option.bind (Z3h r40 (Answer.mk ([7, 0]) ([true, false]) 7)) fun r80 =>
  if r80 = true then
  (Z3i (decide (([r41.Pushes, r41.Lifts] : List Int) = [0, 0])))
  else
  Z3i false)
  else
  some false)
  else
  some false
def Z3d  : Option (Bool) :=
  Option.bind Z62 fun r1 =>
  Option.bind (Z33 r1) fun (r12, r13, r14) =>
  Option.bind (Z33 (Net.mk 2 0 1 ([(Arc.mk 0 1 7), (Arc.mk 1 0 3)]))) fun (r40, r41, r42) =>
  if r14 = 0 then
  (Z3j r12 r40 r41 (decide (r42 = 0)))
  else
  Z3j r12 r40 r41 false
def Z4u (s0 : List Arc) : Option (List Arc) :=
  gd (apok s0.length 24) <|
  some s0
def Z8g (n0 : Net) : Option (Net) :=
  Option.bind (Z4u n0.Arcs) fun r5 =>
  some (Net.mk n0.N n0.S n0.T r5)
end Go.Acq
namespace Go.Acq
open Go
set_option linter.unusedVariables false
def Z6g (n0 : Net) (Arcs12 : List Arc) (mp22 : List ((Int × Int) × Int)) (of23 : List Int) (x33 : Int) : Option ((List Arc × (List ((Int × Int) × Int)) × List Int × Int) ⊕ (List Arc × List Int)) :=
  if x33 < (n0.Arcs.length : Int) then
  (gd (inb x33 n0.Arcs.length) <|
  if ((n0.Arcs.getD x33.toNat default).fr) = ((n0.Arcs.getD x33.toNat default).to) then
  (gd (apok (of23 ++ ([(-1)])).length 8) <|
  gd (i64ok (x33 + 1)) <|
  some (.inl (Arcs12, mp22, (of23 ++ ([(-1)])), (x33 + 1))))
  else
  if (Zo4 ((n0.Arcs.getD x33.toNat default).fr, (n0.Arcs.getD x33.toNat default).to) mp22) = true then
  (gd (inb (Zb3 0 ((n0.Arcs.getD x33.toNat default).fr, (n0.Arcs.getD x33.toNat default).to) mp22) Arcs12.length) <|
  gd (i64ok (((Arcs12.getD (Zb3 0 ((n0.Arcs.getD x33.toNat default).fr, (n0.Arcs.getD x33.toNat default).to) mp22).toNat default).cap) + ((n0.Arcs.getD x33.toNat default).cap))) <|
  gd (inb (Zb3 0 ((n0.Arcs.getD x33.toNat default).fr, (n0.Arcs.getD x33.toNat default).to) mp22) Arcs12.length) <|
  gd (apok (of23 ++ ([(Zb3 0 ((n0.Arcs.getD x33.toNat default).fr, (n0.Arcs.getD x33.toNat default).to) mp22)])).length 8) <|
  gd (i64ok (x33 + 1)) <|
  some (.inl ((Arcs12.set (Zb3 0 ((n0.Arcs.getD x33.toNat default).fr, (n0.Arcs.getD x33.toNat default).to) mp22).toNat (Arc.mk ((Arcs12.getD (Zb3 0 ((n0.Arcs.getD x33.toNat default).fr, (n0.Arcs.getD x33.toNat default).to) mp22).toNat default).fr) ((Arcs12.getD (Zb3 0 ((n0.Arcs.getD x33.toNat default).fr, (n0.Arcs.getD x33.toNat default).to) mp22).toNat default).to) (((Arcs12.getD (Zb3 0 ((n0.Arcs.getD x33.toNat default).fr, (n0.Arcs.getD x33.toNat default).to) mp22).toNat default).cap) + ((n0.Arcs.getD x33.toNat default).cap)))), mp22, (of23 ++ ([(Zb3 0 ((n0.Arcs.getD x33.toNat default).fr, (n0.Arcs.getD x33.toNat default).to) mp22)])), (x33 + 1))))
  else
  gd (apok (Arcs12 ++ ([(n0.Arcs.getD x33.toNat default)])).length 24) <|
  gd (apok (of23 ++ ([(Arcs12.length : Int)])).length 8) <|
  gd (i64ok (x33 + 1)) <|
  some (.inl ((Arcs12 ++ ([(n0.Arcs.getD x33.toNat default)])), (Zhv ((n0.Arcs.getD x33.toNat default).fr, (n0.Arcs.getD x33.toNat default).to) (Arcs12.length : Int) mp22), (of23 ++ ([(Arcs12.length : Int)])), (x33 + 1))))
  else
  some (.inr (Arcs12, of23))
def Z89 (n0 : Net) (Arcs88 : List Arc) (of98 : List Int) : Option (Net × List Int) :=
  some ((Net.mk n0.N n0.S n0.T Arcs88), of98)
def Z9n (n0 : Net) : Option (Net × List Int) :=
  Option.bind (Z61 n0) fun r5 =>
  if r5 ≠ 0 then
  (some ((Net.mk 0 0 0 ([])), []))
  else
  Option.bind (Z2k (fun s => Z6g n0 s.1 s.2.1 s.2.2.1 s.2.2.2) Z4t ([], ([] : List ((Int × Int) × Int)), [], 0)) fun (p1_0_0, p1_0_1) => Z89 n0 p1_0_0 p1_0_1
def Z6f (n0 : Net) (xs18 : List Arc) (x20 : Int) : Option ((List Arc × Int) ⊕ (List Arc)) :=
  if x20 < (n0.Arcs.length : Int) then
  (gd (inb x20 n0.Arcs.length) <|
  gd (inb x20 xs18.length) <|
  gd (i64ok (x20 + 1)) <|
  some (.inl ((xs18.set x20.toNat (Arc.mk ((n0.Arcs.getD x20.toNat default).to) ((n0.Arcs.getD x20.toNat default).fr) ((n0.Arcs.getD x20.toNat default).cap))), (x20 + 1))))
  else
  some (.inr xs18)
def Z88 (n0 : Net) (r5 : Net) (xs27 : List Arc) : Option (Net) :=
  some (Net.mk r5.N n0.T n0.S xs27)
def Z9m (n0 : Net) : Option (Net) :=
  Option.bind (Z8g n0) fun r5 =>
  Option.bind (Z2k (fun s => Z6f n0 s.1 s.2) Z4t (r5.Arcs, 0)) fun p1_0_0 => Z88 n0 r5 p1_0_0
def Z2x (r16 : Int) : Option (Bool) :=
  if r16 = 0 then
  (Option.bind Z3d fun r214 =>
  some r214)
  else
  some false
def Z1w (r3 : Net) (r14 : Answer) (r16 : Int) (r40 : Net) (Arcs76 : List Arc) : Option (Bool) :=
  Option.bind (Z9n r3) fun (r86, r87) =>
  Option.bind (Z9m r3) fun r109 =>
  Option.bind (Z33 (Net.mk r40.N r40.S r40.T Arcs76)) fun (r124, r125, r126) =>
  if r126 ≠ 0 then
  (some false)
  else
  if r124.Value ≠ r14.Value then
  (some false)
  else
  Option.bind (Z33 r86) fun (r154, r155, r156) =>
  if r156 ≠ 0 then
  (some false)
  else
  if r154.Value ≠ r14.Value then
  (some false)
  else
  Option.bind (Z33 r109) fun (r184, r185, r186) =>
  if r186 ≠ 0 then
  (some false)
  else
  if r184.Value ≠ r14.Value then
  (some false)
  else
  Z2x r16
def Z3k (n0 : Net) (turn1 : Int) : Option (Bool) :=
  Option.bind (Z47 n0 20 50) fun r3 =>
  Option.bind (Z33 r3) fun (r14, r15, r16) =>
  Option.bind (Z8g r3) fun r40 =>
  if 0 < (r40.Arcs.length : Int) then
  (gd (i64ok turn1) <|
  gd ((r40.Arcs.length : Int) ≠ 0) <|
  gd (0 ≤ (turn1.tmod (r40.Arcs.length : Int)) ∧ (turn1.tmod (r40.Arcs.length : Int)) ≤ (r3.Arcs.length : Int)) <|
  gd (apok (r3.Arcs.drop (turn1.tmod (r40.Arcs.length : Int)).toNat).length 24) <|
  gd (0 ≤ (turn1.tmod (r40.Arcs.length : Int)) ∧ (turn1.tmod (r40.Arcs.length : Int)) ≤ (r3.Arcs.length : Int)) <|
  gd (apok ((r3.Arcs.drop (turn1.tmod (r40.Arcs.length : Int)).toNat) ++ (r3.Arcs.take (turn1.tmod (r40.Arcs.length : Int)).toNat)).length 24) <|
  Z1w r3 r14 r16 r40 ((r3.Arcs.drop (turn1.tmod (r40.Arcs.length : Int)).toNat) ++ (r3.Arcs.take (turn1.tmod (r40.Arcs.length : Int)).toNat)))
  else
  Z1w r3 r14 r16 r40 r40.Arcs
end Go.Acq
namespace Go.Acq
open Go Go.RowKit
section rules
variable {C : Cx} {ops : Array Oper} {Q : Exit → Act → World → Prop} {l : List Nat} {E : Env} {H R : Heap} {i d : Nat} {ty : TypeId} {pos : String} {af : Array Edge} {g : Option (Nat × Bool)}
theorem Z0m {c : Code} {E' : Env} (hE : AllF E' E) (h : T C c Q E' H) : T C c Q E H := T.weak h hE.sub (Z06 _)
end rules
end Go.Acq
namespace Go.Acq
open Go Go.RowKit
section rules
variable {C : Cx} {ops : Array Oper} {Q : Exit → Act → World → Prop} {l : List Nat} {E : Env} {H R : Heap} {i d : Nat} {ty : TypeId} {pos : String} {af : Array Edge} {g : Option (Nat × Bool)}
end rules
end Go.Acq
namespace Go.Acq
open Go Go.RowKit Go.ChangeShapes Go.WideShapes Go.Deep Go.Joins
section
variable {H : Type} {enc : TypeId × Value → H} {P : Program} {w : World} {base : Nat} {spare : Nat → Bool} {held : Bool}
theorem Zda {t e : TypeId} {fs : Array Field} {fuel : Nat} {cs : List Value} {x : DataW H × List MemPlace} (ht : P.underlying t = some (.slice e)) (he : P.underlying e = some (.struct fs))
    (hone : oneCellFields P fs = true) (hC : P.cellsOf e = fs.size) (h : DataW.trod enc P w base spare held fuel t cs = some x) :
    (cs = [.slice none 0 0] ∧ x = (.nil, [])) ∨
    ∃ (a : Addr) (len cap m : Nat) (D : Nat → DataW H) (Pl : Nat → List MemPlace), cs = [.slice (some a) len cap] ∧ base ≤ a.block ∧ len ≤ cap ∧ cap ≤ maxLen ∧ m = (if spare a.block then cap else len) ∧
      x = (.slice ((List.range len).map D) ((List.range (m - len)).map fun j => D (len + j)), MemPlace.row a (m * fs.size) ++ (List.range m).flatMap Pl) ∧
      ∀ i, i < m → ∃ (ys : List (DataW H × List MemPlace)) (n : Nat), D i = .agg (ys.map (·.1)) ∧ Pl i = ys.flatMap (·.2) ∧ ys.length = fs.size ∧
        ∀ (j : Nat) (f : Field), fs[j]? = some f → ∃ (v : Value) (y : DataW H × List MemPlace), w.cell? (a.add (i * fs.size + j)) = some v ∧ ys[j]? = some y ∧ DataW.trod enc P w base spare held n f.type [v] = some y := by
  rcases open_slice ht h with h0 | ⟨a, len, cap, m, n, D, Pl, hcs, hb, hl, hm, hmm, hx, hi⟩
  · exact .inl h0
  · refine .inr ⟨a, len, cap, m, D, Pl, hcs, hb, hl, hm, hmm, by rw [hC] at hx; exact hx, fun i him => ?_⟩
    obtain ⟨cs', hc, ht'⟩ := hi i him
    rw [hC] at hc
    obtain ⟨ys, n', hn', hy, hlen, hyl, hf⟩ := DataW.trod_struct he ht'
    obtain ⟨_, hcl, hat⟩ := World.cells?_some hc
    simp only [Prod.mk.injEq] at hy
    refine ⟨ys, n', hy.1, hy.2, hyl, fun j f hj => ?_⟩
    obtain ⟨ho, hk⟩ := hone_of hone j f hj
    have hjl : j < fs.size := (Array.getElem?_eq_some_iff.1 hj).1
    have hcell := hat j hjl
    have hv : cs'[j]? = some (cs'[j]'(by omega)) := List.getElem?_eq_getElem (by omega)
    have h1 := hf j f hj
    rw [ho, hk] at h1
    have hone' : (cs'.drop j).take 1 = [cs'[j]'(by omega)] := by
      rw [List.drop_eq_getElem_cons (by omega)]
      rfl
    rw [hone'] at h1
    have hys : ys[j]? = some (ys[j]'(by omega)) := List.getElem?_eq_getElem (by omega)
    refine ⟨_, _, ?_, hys, h1.trans hys⟩
    rw [← Go.Deep.add_add, hcell, hv]
end
section
variable {H : Type} {enc : TypeId × Value → H} {P : Program} {w : World} {base : Nat} {spare : Nat → Bool} {held : Bool}
def fitI (x : Int) : Prop := -9223372036854775808 ≤ x ∧ x ≤ 9223372036854775807
theorem Zka {x : Int} (h : (Lit.int .i64 x).wf = true) : fitI x := by
 unfold fitI; simp [Lit.wf, IntKind.min, IntKind.max, IntKind.signed, IntKind.bits] at h; omega
theorem open_arcs {t e : TypeId} {fs : Array Field} {f0 f1 f2 : Field} {fuel : Nat} {v : Value} {x : DataW H × List MemPlace} (ht : P.underlying t = some (.slice e)) (he : P.underlying e = some (.struct fs)) (hfs : fs = #[f0, f1, f2])
    (hone : oneCellFields P fs = true) (hC : P.cellsOf e = fs.size) (k0 : P.underlying f0.type = some (.int .i64)) (k1 : P.underlying f1.type = some (.int .i64)) (k2 : P.underlying f2.type = some (.int .i64))
    (h : DataW.trod enc P w base spare held fuel t [v] = some x) :
    ∃ (b : Option Addr) (n c : Nat) (al : List Arc), v = .slice b n c ∧ RO w Z3b 3 b n al ∧ n ≤ c ∧ n ≤ 9223372036854775807 ∧ ∀ a, a ∈ al → fitI a.fr ∧ fitI a.to ∧ fitI a.cap := by
  rcases Zda ht he hone hC h with ⟨hcs, _⟩ | ⟨a, l, c, m, D, Pl, hcs, _, hl, hm, hmm, _, hi⟩
  · injection hcs with h1 _
    exact ⟨none, 0, 0, [], h1, Zq5 w (fun _ => rfl), Nat.le_refl _, by omega, fun y hy => by cases hy⟩
  · injection hcs with h1 _
    have hlm : l ≤ m := by rw [hmm]; split <;> omega
    have key : ∀ i, i < l → ∃ q : Arc, w.cell? (a.add (i * 3 + 0)) = some (.int .i64 q.fr) ∧ w.cell? (a.add (i * 3 + 1)) = some (.int .i64 q.to) ∧ w.cell? (a.add (i * 3 + 2)) = some (.int .i64 q.cap) ∧ fitI q.fr ∧ fitI q.to ∧ fitI q.cap := by
      intro i hil
      obtain ⟨ys, n, _, _, _, hf⟩ := hi i (by omega)
      subst hfs
      obtain ⟨v0, y0, c0, _, t0⟩ := hf 0 f0 rfl
      obtain ⟨v1, y1, c1, _, t1⟩ := hf 1 f1 rfl
      obtain ⟨v2, y2, c2, _, t2⟩ := hf 2 f2 rfl
      obtain ⟨n0, e0, _, w0⟩ := DataW.trod_int k0 t0
      obtain ⟨n1, e1, _, w1⟩ := DataW.trod_int k1 t1
      obtain ⟨n2, e2, _, w2⟩ := DataW.trod_int k2 t2
      injection e0 with e0 _; injection e1 with e1 _; injection e2 with e2 _
      subst e0; subst e1; subst e2
      exact ⟨⟨n0, n1, n2⟩, c0, c1, c2, Zka w0, Zka w1, Zka w2⟩
    let g : Nat → Arc := fun i => if hil : i < l then Classical.choose (key i hil) else default
    have hg : ∀ i (hil : i < l), g i = Classical.choose (key i hil) := fun i hil => by simp only [g, dif_pos hil]
    refine ⟨some a, l, c, (List.range l).map g, h1, ⟨by simp, (fun e => by cases e), arcC_len, fun o q ho hq x hx => ?_⟩, hl, by unfold maxLen at hm; omega, fun y hy => ?_⟩
    · simp only [List.length_map, List.length_range] at ho
      have hs := Classical.choose_spec (key o ho)
      rw [← hg o ho] at hs
      have hxo : x = g o := by
        rw [List.getElem?_map, List.getElem?_range ho] at hx
        simpa using hx.symm
      subst hxo
      rcases (show q = 0 ∨ q = 1 ∨ q = 2 by omega) with rfl | rfl | rfl
      · exact hs.1
      · exact hs.2.1
      · exact hs.2.2.1
    · obtain ⟨i, hil, rfl⟩ := List.mem_map.1 hy
      have hil := List.mem_range.1 hil
      have hs := Classical.choose_spec (key i hil)
      rw [← hg i hil] at hs
      exact hs.2.2.2
end
end Go.Acq
namespace Go.Acq
open Go Go.RowKit Go.ChangeShapes Go.WideShapes Go.Deep Go.Joins
theorem i64ok_wf {x : Int} (h : (Lit.int .i64 x).wf = true) : i64ok x := by simp [Lit.wf, IntKind.min, IntKind.max, IntKind.signed, IntKind.bits] at h; omega
theorem u8ok_wf {x : Int} (h : (Lit.int .u8 x).wf = true) : u8ok x := by simp [Lit.wf, IntKind.min, IntKind.max, IntKind.signed, IntKind.bits] at h; omega
section
variable {H : Type} {enc : TypeId × Value → H} {P : Program} {w : World} {base : Nat} {spare : Nat → Bool} {held : Bool}
end
end Go.Acq
namespace Go.Acq
open Go Go.RowKit
abbrev SM := Option Addr × Nat × Nat
def smC (m : SM) : List Value := [.slice m.1 m.2.1 m.2.2]
structure RW {α : Type} (w : World) (M : List Nat) (f : α → List Value) (s : Nat) (base : Option Addr) (n c : Nat) (ms : List SM) (xss : List (List α)) : Prop where
  rs : RS w M smC 1 base n c ms
  eqlen : ms.length = xss.length
  row : ∀ i, i < ms.length → RS w M f s (ms.getD i default).1 (ms.getD i default).2.1 (ms.getD i default).2.2 (xss.getD i [])
section
variable {α : Type} {w w0 : World} {M M' : List Nat} {f : α → List Value} {s n c : Nat} {base : Option Addr} {ms : List SM} {xss : List (List α)} {H Hm R : Heap}
theorem RW.len (h : RW w M f s base n c ms xss) : xss.length = n := by rw [← h.eqlen]; exact h.rs.len
theorem RW.cap (h : RW w M f s base n c ms xss) : n ≤ c := h.rs.cap
theorem RW.nil (w : World) (M : List Nat) : RW w M f s none 0 0 [] ([] : List (List α)) := ⟨RS.nil _ _ (fun _ => rfl), rfl, fun i hi => by simp at hi⟩
theorem RW.mono (h : RW w0 M f s base n c ms xss) (hi : Inv w0 M w H) : RW w [] f s base n c ms xss := ⟨h.rs.mono hi, h.eqlen, fun i hl => (h.row i hl).mono hi⟩
theorem RW.monoM (h : RW w0 M f s base n c ms xss) (hs : 0 < s) (hi : Inv w0 M w H) (hp : List.Perm H (Hm ++ R)) (hM : Hm.filterMap (·.1) = M') : RW w M' f s base n c ms xss :=
 ⟨h.rs.monoM (by decide) hi hp hM, h.eqlen, fun i hl => (h.row i hl).monoM hs hi hp hM⟩
theorem Ziw {α : Type} {xs : List α} {d : α} {i k : Nat} (h : i < k) : (xs.take k).getD i d = xs.getD i d := by
 simp [List.getD_eq_getElem?_getD, List.getElem?_take, h]
theorem Zix {α : Type} {xs : List α} {d : α} {i k : Nat} : (xs.drop k).getD i d = xs.getD (k + i) d := by
 simp [List.getD_eq_getElem?_getD]
theorem RW.take (h : RW w M f s base n c ms xss) {p : Int} (hp : 0 ≤ p ∧ p ≤ (xss.length : Int)) : RW w M f s base p.toNat c (ms.take p.toNat) (xss.take p.toNat) :=
 ⟨h.rs.take (by rw [h.eqlen]; exact hp), by rw [List.length_take, List.length_take, h.eqlen], fun i hi => by
  rw [List.length_take] at hi
  rw [Ziw (by omega), Ziw (by omega)]; exact h.row i (by omega)⟩
theorem RW.drop (h : RW w M f s base n c ms xss) {p : Int} (hp : 0 ≤ p ∧ p ≤ (xss.length : Int)) : RW w M f s (lowB base p.toNat c 1) (n - p.toNat) (c - p.toNat) (ms.drop p.toNat) (xss.drop p.toNat) :=
 ⟨h.rs.drop (by rw [h.eqlen]; exact hp), by rw [List.length_drop, List.length_drop, h.eqlen], fun i hi => by
  rw [List.length_drop] at hi
  rw [Zix, Zix]; exact h.row _ (by omega)⟩
theorem RW.at (h : RW w M f s base n c ms xss) {p : Int} (hp : inb p xss.length) : RS w M f s (ms.getD p.toNat default).1 (ms.getD p.toNat default).2.1 (ms.getD p.toNat default).2.2 (xss.getD p.toNat []) :=
 h.row _ (by rw [h.eqlen]; exact Z9s hp)
theorem RW.inb (h : RW w M f s base n c ms xss) {p : Int} (hp : inb p xss.length) : inb p ms.length := by rw [h.eqlen]; exact hp
end
section rules
variable {C : Cx} {ops : Array Oper} {Q : Exit → Act → World → Prop} {l : List Nat} {E : Env} {H R : Heap} {i d : Nat} {ty : TypeId} {pos : String} {af : Array Edge} {g : Option (Nat × Bool)}
end rules
open Go.ChangeShapes Go.WideShapes Go.Deep Go.Joins
section
variable {H : Type} {enc : TypeId × Value → H} {P : Program} {w : World} {base : Nat} {spare : Nat → Bool} {held : Bool}
end
end Go.Acq
namespace Go.Acq
open Go Go.RowKit
end Go.Acq
namespace Go.Acq
open Go Go.RowKit
end Go.Acq
namespace Go.Acq
open Go Go.RowKit Go.ChangeShapes Go.WideShapes Go.Deep Go.Joins
section
variable {H : Type} {enc : TypeId × Value → H} {P : Program} {w : World} {base : Nat} {spare : Nat → Bool} {held : Bool}
end
end Go.Acq
namespace Go.Acq
open Go Go.RowKit
abbrev ids (H : Heap) : List Nat := H.filterMap (·.1)
abbrev mkD (r : Nat) : Deferred := { target := .collected r, args := #[] }
abbrev mkO : Obj := .deferred (some [])
def markH : List Nat → Heap
  | [] => []
  | r :: ms => (some r, mkO) :: markH ms
section
variable {w0 w w' w'' : World} {M M' : List Nat} {H H' Hm R : Heap} {b : Nat} {o o' : Obj}
theorem Pick.skip {p : Option Nat × Obj} (h : Pick H' H) : Pick H' (p :: H) := by
 obtain ⟨S, ns, hn, hS⟩ := h
 refine ⟨p :: S, ns, hn, ?_⟩
 rw [List.cons_append]
 exact (List.Perm.cons p hS).trans List.perm_middle.symm
theorem Inv.put (h : Inv w0 M w ((some b, o) :: R)) (o' : Obj) : Inv w0 M (w.putObj b o') ((some b, o') :: R) :=
 h.upd (Take.head _ _) rfl rfl rfl World.putObj_size (World.putObj_heap_same (h.lt (.head _))) (fun _ hk => World.putObj_heap_other hk)
theorem HB.monoM {cs : List Value} (h : HB w0 M b cs) (hne : cs ≠ []) (hi : Inv w0 M w H) (hp : List.Perm H (Hm ++ R)) (hM : Hm.filterMap (·.1) = M') : HB w M' b cs :=
 ⟨fun j v hj => hi.cell_old (h.has j v hj) h.far, fun hm => by
  subst hM
  obtain ⟨o, ho⟩ := Z8f hm
  obtain ⟨v, cs', rfl⟩ := List.exists_cons_of_ne_nil hne
  have h0 := h.has 0 v rfl
  have hb : b < w0.heap.size := by
   unfold World.cell? at h0
   split at h0
   · rename_i he; exact (Array.getElem?_eq_some_iff.1 he).1
   · cases h0
  rcases hi.low b o ((List.Perm.mem_iff hp).2 (List.mem_append_left _ ho)) with hl | hl
  · omega
  · exact h.far hl⟩
end
def YC {S X V : Type} (P : Program) (l : Nat) (enc : V → List Value) (y : S → V → Option (S ⊕ X)) (J : S ⊕ X → Heap → Prop) (w : World) (M : List Nat) : Prop :=
  ∀ (s : S) (v : V) (r : S ⊕ X), y s v = some r → ∀ (w' : World) (Hs : Heap), J (.inl s) Hs → Inv w M w' Hs →
    YieldAt (FW none) 0 P l (enc v).toArray w' fun e w'' => ∃ Hs', J r Hs' ∧ e = .returned (.bool r.isLeft) ∧ Inv w' (ids Hs) w'' Hs'
section rules
variable {C : Cx} {ops : Array Oper} {Q : Exit → Act → World → Prop} {l : List Nat} {E : Env} {H R : Heap} {i d : Nat} {ty : TypeId} {pos : String} {af : Array Edge} {g : Option (Nat × Bool)}
theorem TO.yield {S X V : Type} {lp : Nat} {enc : V → List Value} {y : S → V → Option (S ⊕ X)} {J : S ⊕ X → Heap → Prop} {x : Operand} {xs : Array Operand} {at' : Array TypeId} {t r : S ⊕ X} {v : V} {Ho Hs : Heap}
    (hρ : C.ρ = none) (hY : YC C.P lp enc y J C.w0 C.M) (hr : Znb y t v = some r) (hJ : J t Hs)
    (ho : ops[i]? = some ⟨some d, .call ⟨.value x, xs, at'⟩, ty, pos, af, g⟩) (hg : gdB ops E g = true) (hd : Nat.ble (d + 1) C.n = true)
    (hx : ev E x = some (.func (.yield lp) #[] #[])) (hxs : evs E xs.toList = some (enc v)) (hH : H = Ho ++ Hs)
    (kk : ∀ Hs', J r Hs' → TO C ops Q l ((d, .bool r.isLeft) :: E) (Ho ++ Hs')) : TO C ops Q (i :: l) E H := by
  obtain ⟨s, rfl, hys⟩ := Zju hr
  refine Zgc ho hg (by simp) fun a w hf hi => ?_
  subst hH
  have hp : List.Perm (Ho ++ Hs) (Hs ++ Ho) := List.perm_append_comm
  have hi' := hi.perm hp
  obtain ⟨fn, tmps, assign, body, hrun, hround⟩ := hY s v r hys w Hs hJ hi'.left
  have e1 : xs.map a.eval = (enc v).toArray := by apply Array.ext'; simpa using Z99 hf hxs
  have : (execOp a.eval ⟨some d, .call ⟨.value x, xs, at'⟩, ty, pos, af, g⟩).run C.P w = .ok (.round lp fn tmps assign body) w := by
    simp [execOp, resolve, Deferred.ofValue, invoke, hf.ev hx, e1, hrun]
  rw [this]
  rw [Oper.uponIn_round]
  rw [hρ]
  refine ⟨by simp [FW], hround.mono ?_⟩
  rintro e w' ⟨Hs', hJ', rfl, hi2⟩
  have hk := kk Hs' hJ'
  unfold TO at hk
  rw [hρ] at hk
  exact hk _ _ (hf.put hd _) (((hi'.join (List.Perm.refl _) (fun m hm => hm) hi2)).perm List.perm_append_comm)
end rules
abbrev recO (fn : FuncId) (tmps : Array Value) (ps : Array Tmp) (assign body : Code) (df : Nat) (st : LoopState) (pd : Option Code) : Obj :=
  .loop { state := st, pending := pd, fn, tmps, params := ps, assign, body, defers := df }
def RQ {S X : Type} (J : S ⊕ X → Heap → Prop) (jmp : X → Code) (r : S ⊕ X) (w0 : World) (M : List Nat) : Exit → Act → World → Prop
  | .normal, _, w => ∃ s Hs, r = .inl s ∧ J (.inl s) Hs ∧ Inv w0 M w Hs
  | .ret, _, w => ∃ x Hs, r = .inr x ∧ jmp x = .ret ∧ J (.inr x) Hs ∧ Inv w0 M w Hs
  | .exit id, _, w => ∃ x Hs, r = .inr x ∧ jmp x = .exit id ∧ J (.inr x) Hs ∧ Inv w0 M w Hs
  | _, _, _ => False
def putPs : List Tmp → List Value → Env → Env
  | [], _, E => E
  | _ :: _, [], E => E
  | p :: ps, v :: vs, E => putPs ps vs ((p, v) :: E)
theorem Zgt {n : Nat} : ∀ {ps : List Tmp} {vs : List Value} {E : Env} {tmps : Array Value} (_ : ps.all (fun p => Nat.ble (p + 1) n) = true), Fits n [] E { tmps, defers := [] } →
    Fits n [] (putPs ps vs E) { tmps := (ps.zip vs).foldl (fun tmps (t, a) => tmps.setIfInBounds t a) tmps, defers := [] }
  | [], _, _, _, _, h => h
  | _ :: _, [], _, _, _, h => h
  | p :: ps, v :: vs, E, tmps, hb, h => by
    have hb' : Nat.ble (p + 1) n = true ∧ (ps.all fun p => Nat.ble (p + 1) n) = true := by simpa only [List.all_cons, Bool.and_eq_true] using hb
    have := h.put hb'.1 v
    exact Zgt (ps := ps) (vs := vs) hb'.2 this
section control
variable {C : Cx} {Q : Exit → Act → World → Prop} {E : Env} {H : Heap}
def AQ (n : Nat) (w0 : World) (M : List Nat) (E1 : Env) (H1 : Heap) : Exit → Act → World → Prop := fun e a w => e = .normal ∧ Fits n [] E1 a ∧ Inv w0 M w H1
theorem X.asg {ρ : Option Nat} {P : Program} {n : Nat} {w0 : World} {M : List Nat} {E1 : Env} {H1 : Heap} (hE : AllF E1 E) (hH : Pick H1 H) : X ⟨P, ρ, n, [], w0, M⟩ (AQ n w0 M E1 H1) .normal E H :=
 fun _ _ hf hi => ⟨rfl, hf.weak hE.sub, hi.pick hH⟩
theorem X.rfNext {ρ : Option Nat} {P : Program} {n : Nat} {D : List Deferred} {S X : Type} {J : S ⊕ X → Heap → Prop} {jmp : X → Code} {r : S ⊕ X} {w0 : World} {M : List Nat} {s : S} {Hs : Heap} (h : some (Sum.inl s) = some r) (hJ : J (.inl s) Hs) (hp : Pick Hs H) :
    Acq.X ⟨P, ρ, n, D, w0, M⟩ (RQ J jmp r w0 M) .normal E H := fun _ _ _ hi => ⟨s, Hs, by injection h with h; exact h.symm, hJ, hi.pick hp⟩
theorem T.rangeFunc {S X V : Type} (hρ : C.ρ = none) {gop : Operand} {ps : Array Tmp} {assign body : Code} {f : FuncId} {fs cs : Array Value} (hF : Z0q C.P f = true) (hg : ev E gop = some (.func (.func f) fs cs))
    (hps : ps.toList.all (fun p => Nat.ble (p + 1) C.n) = true) (enc : V → List Value) (henc : ∀ v, (enc v).length = ps.size)
    (y : S → V → Option (S ⊕ X)) (J : S ⊕ X → Heap → Prop) (jmp : X → Code) (s0 : S) (t : S ⊕ X) (Hs0 R : Heap) (hJ : J (.inl s0) Hs0) (hH : Pick (Hs0 ++ R) H)
    (it : ∀ (lp : Nat) (w : World) (J' : S ⊕ X → Heap → Prop) (H0 : Heap), J' (.inl s0) H0 → Inv w (ids H0) w H0 → YC C.P lp enc y J' w (ids H0) → ∀ lo, Inv C.w0 C.M w (((some lp, lo) :: Hs0) ++ R) → H0 = (some lp, lo) :: Hs0 →
      Fnc C.P f (fs ++ #[.func (.yield lp) #[] #[]] ++ cs) w (ids H0) (fun v N => v = .tuple #[] ∧ J' t N))
    (round : ∀ (lp : Nat) (w' : World) (s : S) (v : V) (r : S ⊕ X) (Hs : Heap), y s v = some r → J (.inl s) Hs → Inv w' (ids Hs) w' Hs → Inv C.w0 C.M w' (Hs ++ R) →
      ∃ (E1 : Env) (H1 : Heap), T ⟨C.P, some lp, C.n, [], w', ids Hs⟩ assign (AQ C.n w' (ids Hs) E1 H1) (putPs ps.toList (enc v) E) Hs ∧
        ∀ w2, Inv w2 (ids H1) w2 H1 → Inv C.w0 C.M w2 (H1 ++ R) → T ⟨C.P, some lp, C.n, [], w2, ids H1⟩ body (RQ J jmp r w2 (ids H1)) E1 H1)
    (next : ∀ s, t = .inl s → ∀ rr Hs, J (.inl s) Hs → Acq.X { C with D := mkD rr :: C.D } Q .normal E (Hs ++ ((some rr, mkO) :: R)))
    (exit : ∀ x, t = .inr x → ∀ rr Hs, J (.inr x) Hs → T { C with D := mkD rr :: C.D } (jmp x) Q E (Hs ++ ((some rr, mkO) :: R))) :
    T C (.rangeFunc gop ps assign body) Q E H := by
  intro a w hf hi0
  have hi := hi0.pick hH
  refine wpIn_rangeFunc fun fn _ => ?_
  have hFW : (FW C.ρ).round = none := by rw [hρ]; rfl
  rw [hFW]
  obtain ⟨rr, hrr⟩ : ∃ rr, w.heap.size = rr := ⟨_, rfl⟩
  obtain ⟨wa, hwa⟩ : ∃ wa, w.alloc mkO = wa := ⟨_, rfl⟩
  obtain ⟨lp, hlp⟩ : ∃ lp, wa.heap.size = lp := ⟨_, rfl⟩
  obtain ⟨lo, hlo⟩ : ∃ lo, recO fn a.tmps ps assign body rr .ready none = lo := ⟨_, rfl⟩
  obtain ⟨wb, hwb⟩ : ∃ wb, wa.alloc lo = wb := ⟨_, rfl⟩
  have hia : Inv C.w0 C.M wa ((some rr, mkO) :: (Hs0 ++ R)) := by rw [← hwa, ← hrr]; exact hi.alloc mkO
  have hib : Inv C.w0 C.M wb ((some lp, lo) :: (some rr, mkO) :: (Hs0 ++ R)) := by rw [← hwb, ← hlp]; exact hia.alloc lo
  have hlp2 : w.heap.size + 1 = lp := by rw [← hlp, ← hwa]; exact (World.size_alloc ..).symm
  have hib' : Inv C.w0 C.M wb (((some lp, lo) :: Hs0) ++ ((some rr, mkO) :: R)) := hib.perm (by
    rw [List.cons_append]
    exact List.Perm.cons _ List.perm_middle.symm)
  refine ⟨lp, [mkD rr], wb, { target := .fn (.func f) cs, args := fs.push (.func (.yield lp) #[] #[]) }, wb, f, fs ++ #[.func (.yield lp) #[] #[]] ++ cs, wb, ?_, ?_, fun _ _ => trivial, ?_, by simp [FW], ?_⟩
  · rw [run_enterLoop_outer, ← hwb, ← hlo, ← hwa, ← hlp2, ← hrr]
  · have h2 : a.eval gop = .func (.func f) fs cs := hf.ev hg
    have h3 : ∀ v, a.eval (.const v) = v := fun _ => rfl
    simp [resolve, Deferred.ofValue, h2, h3]
  · show (callFunc f (fs.push (.func (.yield lp) #[] #[]) ++ cs)).run C.P wb = _
    rw [Array.push_eq_append]
    exact Z7j hF _ _
  · refine callsIn_FW.2 ?_
    have hlrec : ∀ {w' : World} {M'' : List Nat} {o : Obj} {Hs : Heap}, Inv wb M'' w' ((some lp, o) :: Hs) → w'.heap[lp]? = some o := fun h => h.own lp _ (.head _)
    have hcall := it lp wb (fun r Hx => ∃ Hs, Hx = (some lp, recO fn a.tmps ps assign body rr (match r with | .inl _ => LoopState.ready | .inr _ => LoopState.done) (match r with | .inl _ => none | .inr x => some (jmp x))) :: Hs ∧ J r Hs) ((some lp, lo) :: Hs0)
      ⟨Hs0, by rw [← hlo], hJ⟩ (hib'.left.self (Z06 _) rfl) ?_ lo (hib'.pick (by
        refine Z9e (S := [(some rr, mkO)]) ?_
        rw [List.append_assoc]
        exact List.Perm.append_left _ (List.perm_append_singleton _ _).symm)) rfl
    · refine Calls.mono hcall ?_
      rintro e w3 ⟨v, N, ⟨rfl, Hs3, rfl, hJ3⟩, rfl, hi3⟩
      have hj3 := hib'.join (M' := ids ((some lp, lo) :: Hs0)) (List.Perm.refl _) (fun m hm => hm) hi3
      have hl3 := hj3.own lp _ (.head _)
      have hput := hj3.put (recO fn a.tmps ps assign body rr .exhausted (match t with | .inl _ => none | .inr x => some (jmp x)))
      have hfa : Fits C.n (mkD rr :: C.D) E { a with defers := [mkD rr] ++ a.defers } := ⟨hf.size, by simp [hf.defers], hf.get⟩
      have hpk : Pick (Hs3 ++ ((some rr, mkO) :: R)) ((some lp, recO fn a.tmps ps assign body rr .exhausted (match t with | .inl _ => none | .inr x => some (jmp x))) :: (Hs3 ++ ((some rr, mkO) :: R))) := Pick.skip (Z06 _)
      cases t with
      | inl s =>
        refine ⟨none, _, run_endLoop hl3 (by simp), ?_⟩
        exact next s rfl rr Hs3 hJ3 _ _ hfa (hput.pick hpk)
      | inr x =>
        refine ⟨some (jmp x), _, run_endLoop hl3 (by simp), ?_⟩
        exact exit x rfl rr Hs3 hJ3 _ _ hfa (hput.pick hpk)
    · rintro s v r hys w' Hx ⟨Hs, rfl, hJs⟩ hi'
      have hlw := hlrec hi'
      have hout := hib'.join (M' := ids ((some lp, lo) :: Hs0)) (List.Perm.refl _) (fun m hm => hm) hi'
      have hself := hi'.self (Hm := Hs) (Pick.skip (Z06 _)) rfl
      have houtH : Inv C.w0 C.M w' (Hs ++ R) := hout.pick (by
        refine Pick.skip ?_
        refine Z9e (S := [(some rr, mkO)]) ?_
        rw [List.append_assoc]
        exact List.Perm.append_left _ (List.perm_append_singleton _ _).symm)
      obtain ⟨E1, H1, hasg, hbody⟩ := round lp w' s v r Hs hys hJs hself houtH
      refine ⟨_, _, _, _, run_yield hlw (by simp [henc]), ?_⟩
      refine roundIn_of_wpIn trivial ?_
      have hf0 : Fits C.n [] E { tmps := a.tmps, defers := [] } := ⟨hf.size, rfl, hf.get⟩
      have hf1 := Zgt (vs := enc v) hps hf0
      have hw0 := hasg _ w' hf1 hself
      have hrw : (ps.zip (enc v).toArray).foldl (fun tmps (t, a) => tmps.setIfInBounds t a) a.tmps = (ps.toList.zip (enc v)).foldl (fun tmps (t, a) => tmps.setIfInBounds t a) a.tmps := by
        rw [← Array.foldl_toList]; simp
      rw [hrw]
      refine wpIn_mono (F := FW (some lp)) hw0 ?_
      rintro e a1 w1 ⟨rfl, hfa, hia1⟩
      have hall := (hi'.self (Z06 _) rfl)
      have hall1 := hall.join (Hm := Hs) (R := [(some lp, recO fn a.tmps ps assign body rr .ready none)]) (M' := ids Hs) ((List.perm_append_singleton _ _).symm) (fun m hm => hm) hia1
      have hall1 := hall1.perm (List.perm_append_singleton _ _)
      have hl1 := hall1.own lp _ (.head _)
      refine ⟨_, run_beginRound hl1 rfl, ?_⟩
      have hb1 := hall1.put (recO fn a.tmps ps assign body rr .busy none)
      have hout1 := hout.join (M' := ids ((some lp, recO fn a.tmps ps assign body rr .ready none) :: Hs)) (List.Perm.refl _) (fun m hm => hm) hall1
      have hout2 := hout1.put (recO fn a.tmps ps assign body rr .busy none)
      have hs2 := hb1.self (Hm := H1) (Pick.skip (Z06 _)) rfl
      have hwp := hbody _ hs2 (hout2.pick (by
        refine Pick.skip ?_
        refine Z9e (S := [(some rr, mkO)]) ?_
        rw [List.append_assoc]
        exact List.Perm.append_left _ (List.perm_append_singleton _ _).symm)) a1 _ hfa hs2
      refine wpIn_mono (F := FW (some lp)) hwp ?_
      intro e a3 w3 hq
      have fin : ∀ (Hs' : Heap), Inv (w1.putObj lp (recO fn a.tmps ps assign body rr .busy none)) (ids H1) w3 Hs' → w3.heap[lp]? = some (recO fn a.tmps ps assign body rr .busy none) ∧
          ∀ o, Inv w' (ids ((some lp, recO fn a.tmps ps assign body rr .ready none) :: Hs)) (w3.putObj lp o) ((some lp, o) :: Hs') := by
        intro Hs' h
        have h2 := hb1.join (Hm := H1) (R := [(some lp, recO fn a.tmps ps assign body rr .busy none)]) (M' := ids H1) ((List.perm_append_singleton _ _).symm) (fun m hm => hm) h
        have h2 := h2.perm (List.perm_append_singleton _ _)
        exact ⟨h2.own lp _ (.head _), fun o => h2.put o⟩
      cases e with
      | normal =>
        obtain ⟨s', Hs', rfl, hJ', hi3⟩ := hq
        obtain ⟨h3, h4⟩ := fin Hs' hi3
        exact ⟨_, _, run_endRound none h3, _, ⟨Hs', rfl, hJ'⟩, rfl, h4 _⟩
      | ret =>
        obtain ⟨x, Hs', rfl, hj, hJ', hi3⟩ := hq
        obtain ⟨h3, h4⟩ := fin Hs' hi3
        refine ⟨_, _, run_endRound (some .ret) h3, _, ⟨Hs', rfl, hJ'⟩, rfl, ?_⟩
        simp only [hj]; exact h4 _
      | exit id =>
        obtain ⟨x, Hs', rfl, hj, hJ', hi3⟩ := hq
        obtain ⟨h3, h4⟩ := fin Hs' hi3
        refine ⟨_, _, run_endRound (some (.exit id)) h3, _, ⟨Hs', rfl, hJ'⟩, rfl, ?_⟩
        simp only [hj]; exact h4 _
      | goto _ => exact hq.elim
      | panic _ => exact hq.elim
      | outgrown => exact hq.elim
end control
section ends
variable {C : Cx} {E : Env} {H H' N : Heap}
theorem Zdr {P : Program} {fn : Func} {tmps : Array Value} {R : Ending → World → Prop} {w0 : World} {M : List Nat} : ∀ (ms : List Nat) (w : World), Inv w0 M w (markH ms ++ H') →
    (∀ w', Inv w0 M w' H' → LeavesIn (FW none) 0 P fn tmps R [] .returning w') → LeavesInM (FW none) 0 P fn tmps R (ms.map mkD) .returning w
  | [], w, hi, h => h w hi
  | r :: ms, w, hi, h => by
    refine ⟨by simp, .inl ⟨r, _, rfl, run_takeDeferred (hi.own r _ (.head _)), Zdr ms _ ?_ h⟩⟩
    exact (Inv.put hi (.deferred none)).pick (Pick.skip (Z06 _))
theorem X.retM {fn : Func} {rs : List ResultVar} {vs : List Value} {v : Value} {w0 : World} {M : List Nat} {Post : Value → Heap → Prop} (ms : List Nat) (hρ : C.ρ = none) (hw : C.w0 = w0) (hMM : C.M = M) (hD : C.D = ms.map mkD) (hfn : fn.results.toList = rs)
    (hH : Pick (markH ms ++ H') H) (hr : ∀ (j : Nat) r u, rs[j]? = some r → vs[j]? = some u → Res { C with D := [] } E H' r u) (hl : rs.length = vs.length) (hv : v = Znw vs)
    (hN : Pick N H') (hP : Post v N) : Acq.X C (bodyPostM (FW none) 0 C.P fn (Zq6 w0 M Post)) .ret E H := by
  intro a w hf hi
  show LeavesInM (FW none) 0 C.P fn a.tmps (Zq6 w0 M Post) a.defers .returning w
  rw [hf.defers, hD]
  refine Zdr ms w (hi.pick hH) fun w' hi' => ?_
  have hx := X.ret (C := { C with D := [] }) (fn := fn) (Post := Post) hw hMM rfl hfn hr hl hv hN hP { a with defers := [] } w' ⟨hf.size, rfl, hf.get⟩ hi'
  exact hx.2
theorem X.retM1 {fn : Func} {r : ResultVar} {v : Value} {w0 : World} {M : List Nat} {Post : Value → Heap → Prop} (ms : List Nat) (hρ : C.ρ = none) (hw : C.w0 = w0) (hMM : C.M = M) (hD : C.D = ms.map mkD) (hfn : fn.results.toList = [r]) (hH : Pick (markH ms ++ H') H) (hr : Res { C with D := [] } E H' r v) (hN : Pick N H') (hP : Post v N) :
    Acq.X C (bodyPostM (FW none) 0 C.P fn (Zq6 w0 M Post)) .ret E H :=
  X.retM (vs := [v]) ms hρ hw hMM hD hfn hH (fun j r' u h1 h2 => by
    cases j with
    | zero => simp at h1 h2; subst h1; subst h2; exact hr
    | succ j => simp at h1) rfl rfl hN hP
theorem Zn8 {P : Program} {f : FuncId} {fn : Func} {c : Code} {vs : List Value} {w : World} {M : List Nat} {H : Heap} {Post : Value → Heap → Prop}
    (hf : P.funcs[f]? = some fn) (hb : fn.body = some c) (hn : Nat.ble vs.length fn.ntmps = true) (hi : Inv w M w H)
    (h : T ⟨P, none, fn.ntmps, [], w, M⟩ c (bodyPostM (FW none) 0 P fn (Zq6 w M Post)) (Zf2 0 vs) H) : Fnc P f vs.toArray w M Post := by
  have hn' := Nat.le_of_ble_eq_true hn
  refine callsIn_FW (ρ := none) (n := 0) |>.1 (callsIn_of_wp_marks hf hb trivial ?_ rfl)
  refine h _ w ⟨by simp; omega, rfl, fun t v hv => ?_⟩ hi
  obtain ⟨_, h2⟩ := Zad vs 0 t v hv
  rw [Nat.sub_zero] at h2
  have hlt := (List.getElem?_eq_some_iff.1 h2).1
  simp only [Array.getD_eq_getD_getElem?]
  rw [Array.getElem?_append_left (by simpa using hlt)]
  simp [h2]
end ends
end Go.Acq
namespace Go.Acq
open Go Go.RowKit
theorem X.reheap {C : Cx} {Q : Exit → Act → World → Prop} {e : Exit} {E : Env} {H H' : Heap} (h : H' = H) (k : X C Q e E H) : X C Q e E H' := by rw [h]; exact k
end Go.Acq
namespace Go.Acq
open Go Go.RowKit
theorem Zdt {C : Cx} {P : Program} {fn : Func} {R : Ending → World → Prop} {E : Env} {H : Heap} (h : X C (bodyPost P fn R) .ret E H) : X C (bodyPost P fn R) .normal E H := h
end Go.Acq
namespace Go.Acq
open Go Go.RowKit
section
variable {C : Cx} {ops : Array Oper} {Q : Exit → Act → World → Prop} {l l2 : List Nat} {E E' : Env} {H H' : Heap}
def JQ (C : Cx) (Q : Exit → Act → World → Prop) (d : Nat) (φ : Bool → Prop) (E : Env) (H : Heap) : Exit → Act → World → Prop
  | .normal, a, w => ∃ b, φ b ∧ Fits C.n C.D ((d, .bool b) :: E) a ∧ Inv C.w0 C.M w H
  | e, a, w => Q e a w
theorem Znd {ρ : Option Nat} {P : Program} {Q' : Exit → Act → World → Prop} {i : Nat} {K K' : Act → World → Prop} {a : Act} {w : World} (hq : ∀ e a w, e ≠ .normal → Q' e a w → Q e a w) (hk : ∀ a w, K' a w → K a w)
    (h : wpOpIn (FW ρ) 0 P ops Q' i K' a w) : wpOpIn (FW ρ) 0 P ops Q i K a w := by
  refine wpOpIn_mono hk ?_
  unfold wpOpIn at h ⊢
  cases ho : ops[i]? with
  | none => rw [ho] at h; exact h
  | some o =>
    rw [ho] at h
    simp only at h ⊢
    split
    · rename_i hwt
      simp only [hwt, if_true] at h
      refine ⟨h.1, ?_⟩
      have h2 := h.2
      generalize (o.semAt (FW ρ).round a.eval).run P w = r at h2 ⊢
      cases r with
      | ok x w' =>
        cases x with
        | enter f args => exact ⟨h2.1, CallsIn.mono h2.2 (fun e w' hh => by cases e with
          | returned v => exact hh
          | panicked c => exact hq _ _ _ (by simp) hh
          | outgrown => obtain ⟨a0, w0, h0⟩ := hh; exact ⟨a0, w0, hq _ _ _ (by simp) h0⟩)⟩
        | row _ => exact h2
        | round l f tmps assign body => exact ⟨h2.1, RoundIn.mono h2.2 (fun e w' hh => by cases e with
          | returned v => exact hh
          | panicked c => exact hq _ _ _ (by simp) hh
          | outgrown => obtain ⟨a0, w0, h0⟩ := hh; exact ⟨a0, w0, hq _ _ _ (by simp) h0⟩)⟩
        | _ => exact h2
      | halt x w' => cases x <;> first | exact h2 | exact hq _ _ _ (by simp) h2
    · rename_i hwt
      simp only [hwt, if_false, Bool.false_eq_true] at h
      exact h
theorem Zbf {ρ : Option Nat} {P : Program} {Q' : Exit → Act → World → Prop} {l2 : List Nat} (hq : ∀ e a w, e ≠ .normal → Q' e a w → Q e a w) (hn : ∀ a w, Q' .normal a w → wpOpsIn (FW ρ) 0 P ops Q l2 a w) : ∀ (l1 : List Nat) (a : Act) (w : World), wpOpsIn (FW ρ) 0 P ops Q' l1 a w → wpOpsIn (FW ρ) 0 P ops Q (l1 ++ l2) a w
 | [], a, w, h => hn a w h
 | i :: l1, a, w, h => by
  rw [List.cons_append, wpOpsIn_cons]
  rw [wpOpsIn_cons] at h
  exact Znd hq (fun a w => Zbf hq hn l1 a w) h
theorem TO.join (l1 l2 : List Nat) (hl : l1 ++ l2 = l) (d : Nat) (φ : Bool → Prop) (E' : Env) (h1 : TO C ops (JQ C Q d φ E' H) l1 E H) (h2 : ∀ b, φ b → TO C ops Q l2 ((d, .bool b) :: E') H) : TO C ops Q l E H := by
 subst hl
 intro a w hf hi
 refine Zbf (Q' := JQ C Q d φ E' H) (fun e a w hne h => ?_) (fun a w h => ?_) l1 a w (h1 a w hf hi)
 · cases e <;> first | exact absurd rfl hne | exact h
 ·
  obtain ⟨b, hb, hfit, hinv⟩ := h
  exact h2 b hb a w hfit hinv
theorem X.jn {d : Nat} {φ : Bool → Prop} {b : Bool} (h : φ b) (hE : AllF ((d, .bool b) :: E') E) : X C (JQ C Q d φ E' H) .normal E H := fun _ _ hf hi => ⟨b, h, hf.weak hE.sub, hi⟩
end
end Go.Acq
namespace Go.Acq
open Go Go.RowKit
def Zd7 (P : Program) (K : World → Prop) (w : World) (v : Value) : Result Next → Prop
  | .ok (.value u) w' => w' = w ∧ u = v
  | .ok (.enter f args) w' => w' = w ∧ Calls P f args w (fun e w'' => e = .returned v ∧ K w'')
  | _ => False
def wpQ (P : Program) (ops : Array Oper) (K : World → Prop) (Qn : Act → Prop) : List Nat → Act → Prop
  | [], a => Qn a
  | i :: rest, a => match ops[i]? with
    | none => wpQ P ops K Qn rest a
    | some o => (∀ c, o.op ≠ .defer c) ∧ (∀ cs b, o.op ≠ .select cs b) ∧
        if Region.wanted o (yielded ops a.tmps) = true then ∃ v, (∀ w, K w → Zd7 P K w v ((execOp a.eval o).run P w)) ∧ wpQ P ops K Qn rest (a.put o.dst v)
        else wpQ P ops K Qn rest (a.put o.dst undef)
def TQ (C : Cx) (ops : Array Oper) (Qn : Act → Prop) (l : List Nat) (E : Env) (H : Heap) : Prop := ∀ a, Fits C.n C.D E a → wpQ C.P ops (fun w => Inv C.w0 C.M w H) Qn l a
def seqB (ops : Array Oper) (m : Nat) : Bool := (List.range m).all fun i => match ops[i]? with
  | none => false
  | some o => (match o.dst with | some d => (List.range m).all fun j => Nat.beq j i || !(Z3g ops j == some d) | none => false) &&
      (o.looksAt ops).all fun t => (List.range m).all fun j => !(Z3g ops j == some t) || (Nat.blt j i && Zc2 ops ops.size i j)
section
variable {C : Cx} {ops : Array Oper} {Q : Exit → Act → World → Prop} {E : Env} {H : Heap}
def Zf6 (ops : Array Oper) (vs : Nat → Value) (a : Act) : Nat → Act
  | 0 => a
  | i + 1 => (Zf6 ops vs a i).put (Z3g ops i) (vs i)
structure DoneQ (ops : Array Oper) (m : Nat) (vs : Nat → Value) (a0 : Act) (done : Nat → Bool) (a : Act) : Prop where
  size : a.tmps.size = a0.tmps.size
  defers : a.defers = a0.defers
  has : ∀ j d, j < m → done j = true → Z3g ops j = some d → d < a0.tmps.size → a.tmps[d]? = some (vs j)
  old : ∀ t, (∀ j, j < m → done j = true → Z3g ops j ≠ some t) → a.tmps[t]? = a0.tmps[t]?
theorem DoneQ.put {m : Nat} {vs : Nat → Value} {a0 a : Act} {done : Nat → Bool} {i d : Nat} (h : DoneQ ops m vs a0 done a) (hi : i < m) (hd : Z3g ops i = some d) (hu : ∀ j, j < m → j ≠ i → Z3g ops j ≠ some d) :
    DoneQ ops m vs a0 (fun q => if q = i then true else done q) (a.put (some d) (vs i)) := by
  refine ⟨by simpa [Act.put] using h.size, h.defers, fun j e hj hdj hs hlt => ?_, fun t ht => ?_⟩
  · simp only [Act.put, Array.getElem?_setIfInBounds]
    by_cases c : j = i
    · subst c
      rw [hd] at hs; injection hs with hs; subst hs
      rw [if_pos rfl, if_pos (by rw [h.size]; exact hlt)]
    · have hne : d ≠ e := by rintro rfl; exact hu j hj c hs
      rw [if_neg hne]
      exact h.has j e hj (by simpa [c] using hdj) hs hlt
  · simp only [Act.put, Array.getElem?_setIfInBounds]
    have hne : d ≠ t := by rintro rfl; exact ht i hi (by simp) hd
    rw [if_neg hne]
    exact h.old t fun j hj hdj => ht j hj (by by_cases c : j = i <;> simp [c, hdj])
theorem eval_tmp {a a' : Act} {t : Nat} (h : a.tmps[t]? = a'.tmps[t]?) : a.eval (.tmp t) = a'.eval (.tmp t) := by
 simp [Act.eval, Array.getD_eq_getD_getElem?, h]
theorem seq_step {m : Nat} {vs : Nat → Value} {a0 a a' : Act} {done done' : Nat → Bool} {o : Oper} (h : DoneQ ops m vs a0 done a) (h' : DoneQ ops m vs a0 done' a')
    (hl : ∀ t, t ∈ o.looksAt ops → ∀ j, j < m → Z3g ops j = some t → done j = true ∧ done' j = true) :
    (∀ x, x ∈ o.op.operands → a.eval x = a'.eval x) ∧ Region.wanted o (yielded ops a.tmps) = Region.wanted o (yielded ops a'.tmps) := by
  have key : ∀ t : Nat, t ∈ o.looksAt ops → a.tmps[t]? = a'.tmps[t]? := by
    intro t ht
    by_cases c : ∃ j, j < m ∧ Z3g ops j = some t
    · obtain ⟨j, hj, hs⟩ := c
      obtain ⟨d1, d2⟩ := hl t ht j hj hs
      by_cases hlt : t < a0.tmps.size
      · rw [h.has j t hj d1 hs hlt, h'.has j t hj d2 hs hlt]
      · rw [Array.getElem?_eq_none (by rw [h.size]; omega), Array.getElem?_eq_none (by rw [h'.size]; omega)]
    · have hn : ∀ j, j < m → Z3g ops j ≠ some t := fun j hj hs => c ⟨j, hj, hs⟩
      rw [h.old t fun j hj _ => hn j hj, h'.old t fun j hj _ => hn j hj]
  refine ⟨fun x hx => ?_, ?_⟩
  · cases x with
    | tmp t => exact eval_tmp (key t (List.mem_append_left _ (List.mem_filterMap.2 ⟨.tmp t, by simpa using hx, rfl⟩)))
    | const v => rfl
    | global g => rfl
    | func f => rfl
  · unfold Region.wanted
    cases hg : o.guard with
    | none => rfl
    | some gw =>
      obtain ⟨g, want⟩ := gw
      have : yielded ops a.tmps g = yielded ops a'.tmps g := by
        unfold yielded
        cases ht : (ops[g]?).bind (·.dst) with
        | none => rfl
        | some t =>
          have := key t (List.mem_append_right _ (by rw [hg]; simp [ht]))
          simp only [Option.bind_some, this]
      simp only [this]
theorem Znc {K : World → Prop} {Qn : Act → Prop} {vs0 : Nat → Value} {a0 : Act} : ∀ (k i : Nat), (∀ j, j < i + k → ∃ o, ops[j]? = some o) → wpQ C.P ops K Qn (List.range' i k) (Zf6 ops vs0 a0 i) →
    ∃ vs : Nat → Value, (∀ j, j < i → vs j = vs0 j) ∧ (∀ j o, i ≤ j → j < i + k → ops[j]? = some o → (∀ c, o.op ≠ .defer c) ∧ (∀ cs b, o.op ≠ .select cs b) ∧
      ((Region.wanted o (yielded ops (Zf6 ops vs a0 j).tmps) = true ∧ ∀ w, K w → Zd7 C.P K w (vs j) ((execOp (Zf6 ops vs a0 j).eval o).run C.P w)) ∨ (Region.wanted o (yielded ops (Zf6 ops vs a0 j).tmps) = false ∧ vs j = undef))) ∧ Qn (Zf6 ops vs a0 (i + k))
  | 0, i, _, h => ⟨vs0, fun _ _ => rfl, fun j o h1 h2 => by omega, h⟩
  | k + 1, i, hops, h => by
    obtain ⟨o, ho⟩ := hops i (by omega)
    rw [List.range'_succ] at h
    simp only [wpQ, ho] at h
    obtain ⟨hd, hs, h⟩ := h
    have hslot : Z3g ops i = o.dst := by simp [Z3g, ho]
    obtain ⟨v, hv, hrest⟩ : ∃ v, ((Region.wanted o (yielded ops (Zf6 ops vs0 a0 i).tmps) = true ∧ ∀ w, K w → Zd7 C.P K w v ((execOp (Zf6 ops vs0 a0 i).eval o).run C.P w)) ∨ (Region.wanted o (yielded ops (Zf6 ops vs0 a0 i).tmps) = false ∧ v = undef)) ∧
        wpQ C.P ops K Qn (List.range' (i + 1) k) ((Zf6 ops vs0 a0 i).put o.dst v) := by
      by_cases hw : Region.wanted o (yielded ops (Zf6 ops vs0 a0 i).tmps) = true
      · rw [if_pos hw] at h
        obtain ⟨v, h1, h2⟩ := h
        exact ⟨v, .inl ⟨hw, h1⟩, h2⟩
      · rw [if_neg hw] at h
        exact ⟨undef, .inr ⟨by simpa using hw, rfl⟩, h⟩
    have hcongr : ∀ (vs' : Nat → Value), (∀ j, j < i → vs' j = vs0 j) → ∀ j, j ≤ i → Zf6 ops vs' a0 j = Zf6 ops vs0 a0 j := by
      intro vs' hvs j
      induction j with
      | zero => intro _; rfl
      | succ j ih => intro hj; simp only [Zf6]; rw [ih (by omega), hvs j (by omega)]
    let vs1 : Nat → Value := fun j => if j = i then v else vs0 j
    have e1 : Zf6 ops vs1 a0 (i + 1) = (Zf6 ops vs0 a0 i).put o.dst v := by
      simp only [Zf6]
      rw [hcongr vs1 (fun j hj => by simp only [vs1]; rw [if_neg (by omega)]) i (Nat.le_refl _), hslot]
      simp only [vs1, if_true]
    rw [← e1] at hrest
    obtain ⟨vs, g1, g2, g3⟩ := Znc k (i + 1) (fun j hj => hops j (by omega)) hrest
    have gi : vs i = v := by rw [g1 i (by omega)]; simp only [vs1, if_true]
    have gl : ∀ j, j < i → vs j = vs0 j := fun j hj => by rw [g1 j (by omega)]; simp only [vs1]; rw [if_neg (by omega)]
    refine ⟨vs, gl, fun j o' h1 h2 ho' => ?_, by rw [show i + (k + 1) = i + 1 + k by omega]; exact g3⟩
    by_cases c : j = i
    · subst c
      rw [ho] at ho'; injection ho' with ho'; subst ho'
      rw [hcongr vs gl j (Nat.le_refl _), gi]
      exact ⟨hd, hs, hv⟩
    · exact g2 j o' (by omega) (by omega) ho'
theorem Zf3 {m : Nat} {vs : Nat → Value} {a0 : Act} (hu : ∀ i, i < m → ∃ d, Z3g ops i = some d ∧ ∀ j, j < m → j ≠ i → Z3g ops j ≠ some d) : ∀ i, i ≤ m → DoneQ ops m vs a0 (fun q => decide (q < i)) (Zf6 ops vs a0 i)
 | 0, _ => ⟨rfl, rfl, fun j d _ h => by simp at h, fun t _ => rfl⟩
 | i + 1, hi => by
  obtain ⟨d, hd, hud⟩ := hu i (by omega)
  have := (Zf3 (vs := vs) (a0 := a0) hu i (by omega)).put (by omega) hd hud
  simp only [Zf6]
  rw [hd]
  have e : (fun q : Nat => decide (q < i + 1)) = fun q => if q = i then true else decide (q < i) := by
   funext q
   by_cases c : q = i
   · simp [c]
   ·
    have : (q < i + 1) ↔ q < i := by omega
    simp [c, this]
  rw [e]; exact this
theorem Z8y {id : Nat} (m : Nat) (ll : List Nat) (hll : List.range m = ll) (hm : C.P.follows .mixedOrders = true) (hb : Zke ops = true) (ht : Znl ops m = true) (hms : Nat.ble m ops.size = true) (hs : seqB ops m = true)
    (k : TQ C ops (fun a => ∀ w, Inv C.w0 C.M w H → wpOpsIn (FW C.ρ) 0 C.P ops Q (List.range' m (ops.size - m)) a w) ll E H) : T C (.region id ops true) Q E H := by
  subst hll
  intro a0 w hf hi
  have hms' := Nat.le_of_ble_eq_true hms
  have hseq : ∀ i, i < m → ∃ o d, ops[i]? = some o ∧ Z3g ops i = some d ∧ (∀ j, j < m → j ≠ i → Z3g ops j ≠ some d) ∧ ∀ t, t ∈ o.looksAt ops → ∀ j, j < m → Z3g ops j = some t → j < i ∧ Zc2 ops ops.size i j = true := by
    intro i him
    have h1 := List.all_eq_true.1 hs i (List.mem_range.2 him)
    have ho : ops[i]? = some ops[i] := Array.getElem?_eq_getElem (by omega)
    rw [ho] at h1
    simp only [Bool.and_eq_true] at h1
    cases hd : (ops[i]).dst with
    | none => rw [hd] at h1; simp at h1
    | some d =>
      rw [hd] at h1
      refine ⟨ops[i], d, ho, by simp [Z3g, ho, hd], fun j hj hji he => ?_, fun t htl j hj hsj => ?_⟩
      · have h2 := List.all_eq_true.1 h1.1 j (List.mem_range.2 hj)
        simp only [Bool.or_eq_true] at h2
        rcases h2 with h2 | h2
        · exact hji (Nat.eq_of_beq_eq_true h2)
        · rw [he] at h2; simp at h2
      · have h2 := List.all_eq_true.1 (List.all_eq_true.1 h1.2 t htl) j (List.mem_range.2 hj)
        rw [hsj] at h2
        simpa using h2
  have hu : ∀ i, i < m → ∃ d, Z3g ops i = some d ∧ ∀ j, j < m → j ≠ i → Z3g ops j ≠ some d := fun i h => by
    obtain ⟨_, d, _, h1, h2, _⟩ := hseq i h; exact ⟨d, h1, h2⟩
  have hk := k a0 hf
  rw [List.range_eq_range'] at hk
  obtain ⟨vs, -, hstep, hend⟩ := Znc (C := C) (vs0 := fun _ => undef) (a0 := a0) m 0 (fun j hj => by obtain ⟨o, _, ho, _⟩ := hseq j (by omega); exact ⟨o, ho⟩) hk
  rw [Nat.zero_add] at hend
  refine Zay (m := m) (Jp := fun done a w => DoneQ ops m vs a0 done a ∧ Inv C.w0 C.M w H) hm hb ht hms' ?_ ?_ ⟨⟨rfl, rfl, fun j d _ h => by simp at h, fun t _ => rfl⟩, hi.ofHeap rfl rfl rfl rfl⟩
  · rintro done i o a w1 him ho hdi hcl hafter _ ⟨hD, hinv⟩
    obtain ⟨o', d, ho', hsl, hud, hlook⟩ := hseq i him
    rw [ho] at ho'; injection ho' with ho'; subst ho'
    have hdst : o.dst = some d := by simpa [Z3g, ho] using hsl
    have hdone : ∀ j, Zc2 ops ops.size i j = true → done j = true := fun j hj => Z76 hcl _ i j hj (fun o' ho' => by rw [ho] at ho'; injection ho' with ho'; subst ho'; exact hafter)
    obtain ⟨hev, hwt⟩ := seq_step hD (Zf3 hu i (by omega)) (o := o) (fun t htl j hj hsj => by
      obtain ⟨h1, h2⟩ := hlook t htl j hj hsj
      exact ⟨hdone j h2, by simpa using h1⟩)
    obtain ⟨hnd, hns, hval⟩ := hstep i o (by omega) (by omega) ho
    have hex := execOp_congr o hns hev
    have hput := hD.put him hsl hud
    unfold wpOpIn
    rw [ho]
    simp only
    rcases hval with ⟨hw, hq⟩ | ⟨hw, hq⟩
    · rw [hwt, hw]
      simp only [if_true]
      refine ⟨fun _ _ => trivial, ?_⟩
      rw [Oper.semAt_eq _ _ _ hnd, hex]
      have hq := hq w1 hinv
      generalize (execOp (Zf6 ops vs a0 i).eval o).run C.P w1 = r at hq
      cases r with
      | ok x w' =>
        cases x <;> simp only [Zd7] at hq
        case value u =>
          obtain ⟨rfl, rfl⟩ := hq
          show _ ∧ _
          rw [hdst]
          exact ⟨hput, hinv⟩
        case enter f args =>
          obtain ⟨rfl, hc⟩ := hq
          refine ⟨by simp [FW], callsIn_FW.2 (Calls.mono hc ?_)⟩
          rintro e w'' ⟨rfl, hK⟩
          show _ ∧ _
          rw [hdst]
          exact ⟨hput, hK⟩
      | halt x w' => simp only [Zd7] at hq
    · rw [hwt, hw]
      simp only [Bool.false_eq_true, if_false]
      refine ⟨fun _ _ => trivial, ?_⟩
      rw [hdst, ← hq]
      exact ⟨hput, hinv⟩
  · rintro done a w1 hall ⟨hD, hinv⟩
    have hA := Zf3 (vs := vs) (a0 := a0) hu m (Nat.le_refl _)
    have ea : a = Zf6 ops vs a0 m := by
      have e1 : a.tmps = (Zf6 ops vs a0 m).tmps := by
        apply Array.ext_getElem?
        intro t
        by_cases c : ∃ j, j < m ∧ Z3g ops j = some t
        · obtain ⟨j, hj, hsj⟩ := c
          by_cases hlt : t < a0.tmps.size
          · rw [hD.has j t hj (hall j hj) hsj hlt, hA.has j t hj (by simpa using hj) hsj hlt]
          · rw [Array.getElem?_eq_none (by rw [hD.size]; omega), Array.getElem?_eq_none (by rw [hA.size]; omega)]
        · have hn : ∀ j, j < m → Z3g ops j ≠ some t := fun j hj hsj => c ⟨j, hj, hsj⟩
          rw [hD.old t fun j hj _ => hn j hj, hA.old t fun j hj _ => hn j hj]
      have e2 : a.defers = (Zf6 ops vs a0 m).defers := by rw [hD.defers, hA.defers]
      cases a; simp_all
    rw [ea]
    exact hend w1 hinv
theorem TQ.tail {m k : Nat} (l : List Nat) (hl : List.range' m k = l) {H0 : Heap} (hH : H0 = H) (h : TO C ops Q l E H) : TQ C ops (fun a => ∀ w, Inv C.w0 C.M w H → wpOpsIn (FW C.ρ) 0 C.P ops Q (List.range' m k) a w) [] E H0 := fun a hf w hi => by rw [hl]; exact h a w hf hi
end
end Go.Acq
namespace Go.Acq
open Go Go.RowKit
section rules
variable {C : Cx} {ops : Array Oper} {Q : Act → Prop} {l : List Nat} {E : Env} {H R : Heap} {i d : Nat} {ty : TypeId} {pos : String} {af : Array Edge} {g : Option (Nat × Bool)}
theorem TQ.val {op : Op} {v : Value} (ho : ops[i]? = some ⟨some d, op, ty, pos, af, g⟩) (hg : gdB ops E g = true) (hd : Nat.ble (d + 1) C.n = true) (hnd : ∀ c, op ≠ .defer c)
    (hr : ∀ a w, Fits C.n C.D E a → Inv C.w0 C.M w H → (execOp a.eval ⟨some d, op, ty, pos, af, g⟩).run C.P w = .ok (.value v) w)
    (k : TQ C ops Q l ((d, v) :: E) H) (hns : ∀ cs b, op ≠ .select cs b := by simp) : TQ C ops Q (i :: l) E H := by
  intro a hf
  simp only [wpQ, ho]
  refine ⟨hnd, hns, ?_⟩
  rw [if_pos (Zdc hf hg)]
  exact ⟨v, fun w hi => by rw [hr a w hf hi]; exact ⟨rfl, rfl⟩, k _ (hf.put hd v)⟩
theorem TQ.move {x : Operand} {v : Value} (ho : ops[i]? = some ⟨some d, .move x, ty, pos, af, g⟩) (hg : gdB ops E g = true) (hd : Nat.ble (d + 1) C.n = true) (hx : ev E x = some v)
    (k : TQ C ops Q l ((d, v) :: E) H) : TQ C ops Q (i :: l) E H :=
  TQ.val ho hg hd (by simp) (fun a w hf _ => by simp [execOp, hf.ev hx]) k
theorem TQ.assign {x : Operand} {v : Value} (ho : ops[i]? = some ⟨some d, .assign x, ty, pos, af, g⟩) (hg : gdB ops E g = true) (hd : Nat.ble (d + 1) C.n = true) (hx : ev E x = some v)
    (k : TQ C ops Q l ((d, v) :: E) H) : TQ C ops Q (i :: l) E H :=
  TQ.val ho hg hd (by simp) (fun a w hf _ => by simp [execOp, hf.ev hx]) k
theorem TQ.bin {op : BinOp} {t t2 : TypeId} {x y : Operand} {k : IntKind} {p q : Int} {v : Value}
    (ho : ops[i]? = some ⟨some d, .binOp op t x y t2, ty, pos, af, g⟩) (hg : gdB ops E g = true) (hd : Nat.ble (d + 1) C.n = true) (hx : ev E x = some (.int k p)) (hy : ev E y = some (.int k q))
    (hv : binV op k p q = some v) (kk : TQ C ops Q l ((d, v) :: E) H) : TQ C ops Q (i :: l) E H :=
  TQ.val ho hg hd (by simp) (fun a w hf _ => by simp [execOp, hf.ev hx, hf.ev hy, eqGuard_at_int, Zkz hv]) kk
theorem TQ.add {t t2 : TypeId} {x y : Operand} {p q : Int}
    (ho : ops[i]? = some ⟨some d, .binOp .add t x y t2, ty, pos, af, g⟩) (hg : gdB ops E g = true) (hd : Nat.ble (d + 1) C.n = true) (hx : ev E x = some (.int .i64 p)) (hy : ev E y = some (.int .i64 q))
    (h1 : -9223372036854775808 ≤ p + q) (h2 : p + q ≤ 9223372036854775807) (kk : TQ C ops Q l ((d, .int .i64 (p + q)) :: E) H) : TQ C ops Q (i :: l) E H :=
  TQ.bin ho hg hd hx hy (by simp only [binV]; rw [Z74 h1 h2]) kk
theorem TQ.fieldAddr {s : TypeId} {x : Operand} {f o b p : Nat} (ho : ops[i]? = some ⟨some d, .fieldAddr s x f, ty, pos, af, g⟩) (hg : gdB ops E g = true) (hd : Nat.ble (d + 1) C.n = true)
    (hx : ev E x = some (.pointer (some ⟨b, p, none⟩))) (hT : Z17 C.P s f = some o) (kk : TQ C ops Q l ((d, .pointer (some ⟨b, p + o, none⟩)) :: E) H) : TQ C ops Q (i :: l) E H :=
  TQ.val ho hg hd (by simp) (fun a w hf _ => by simp [execOp, hf.ev hx, Zer hT]) kk
theorem Z16 {s : TypeId} {x : Operand} {f o b : Nat} (ho : ops[i]? = some ⟨some d, .fieldAddr s x f, ty, pos, af, g⟩) (hg : gdB ops E g = true) (hd : Nat.ble (d + 1) C.n = true)
    (hx : ev E x = some (.pointer (some ⟨b, 0, none⟩))) (hT : Z17 C.P s f = some o) (kk : TQ C ops Q l ((d, .pointer (some ⟨b, o, none⟩)) :: E) H) : TQ C ops Q (i :: l) E H :=
  TQ.fieldAddr ho hg hd hx hT (by rw [Nat.zero_add]; exact kk)
theorem TQ.load {t : TypeId} {x : Operand} {ad : Addr} {v : Value} (ho : ops[i]? = some ⟨some d, .load t x, ty, pos, af, g⟩) (hg : gdB ops E g = true) (hd : Nat.ble (d + 1) C.n = true)
    (hx : ev E x = some (.pointer (some ad))) (hT : Z2j C.P t = true) (hc : ∀ w, Inv C.w0 C.M w H → w.cell? ad = some v)
    (kk : TQ C ops Q l ((d, v) :: E) H) : TQ C ops Q (i :: l) E H :=
  TQ.val ho hg hd (by simp) (fun a w hf hi => by simp [execOp, hf.ev hx, Instr.loadAt, Instr.sureAddr, Zap hT (hc w hi)]) kk
theorem Z2y {t T' : TypeId} {x : Operand} {b o : Nat} {cs : Array Value} {fr : Nat × Nat} {v : Value} (ho : ops[i]? = some ⟨some d, .load t x, ty, pos, af, g⟩) (hg : gdB ops E g = true) (hd : Nat.ble (d + 1) C.n = true)
    (hx : ev E x = some (.pointer (some ⟨b, o, none⟩))) (hT : Z2j C.P t = true) (hm : (some b, Obj.cells cs T' fr) ∈ H) (hv : cs[o]? = some v)
    (kk : TQ C ops Q l ((d, v) :: E) H) : TQ C ops Q (i :: l) E H :=
  TQ.load ho hg hd hx hT (fun w hi => by rw [hi.cell_own hm]; exact hv) kk
theorem TQ.loadS {t : TypeId} {x : Operand} {ad : Addr} {k : Nat} {cs : List Value} (ho : ops[i]? = some ⟨some d, .load t x, ty, pos, af, g⟩) (hg : gdB ops E g = true) (hd : Nat.ble (d + 1) C.n = true)
    (hx : ev E x = some (.pointer (some ad))) (hT : Zaf C.P t k = true) (hk : cs.length = k) (hc : ∀ w, Inv C.w0 C.M w H → ∀ j v, cs[j]? = some v → w.cell? (ad.add j) = some v)
    (kk : TQ C ops Q l ((d, .agg cs.toArray) :: E) H) : TQ C ops Q (i :: l) E H :=
  TQ.val ho hg hd (by simp) (fun a w hf hi => by simp [execOp, hf.ev hx, Instr.loadAt, Instr.sureAddr, Z8p hT hk (hc w hi)]) kk
theorem TQ.ldI {t T' : TypeId} {x : Operand} {b o : Nat} {k : IntKind} {xs : List Int} {j : List Value} {fr : Nat × Nat} (ho : ops[i]? = some ⟨some d, .load t x, ty, pos, af, g⟩) (hg : gdB ops E g = true) (hd : Nat.ble (d + 1) C.n = true)
    (hx : ev E x = some (.pointer (some ⟨b, o, none⟩))) (hT : Z2j C.P t = true) (hm : (some b, Obj.cells (arr (intC k) xs j).toArray T' fr) ∈ H) (hv : o < xs.length)
    (kk : TQ C ops Q l ((d, .int k (xs.getD o 0)) :: E) H) : TQ C ops Q (i :: l) E H :=
  Z2y ho hg hd hx hT hm (by
    have := Zdb (f := intC k) (s := 1) (fun _ => rfl) 0 xs j o 0 hv (by omega)
    simpa using this) kk
theorem Zjp {t e : TypeId} {x y : Operand} {base : Option Addr} {n c s : Nat} {k : IntKind} {p : Int} (ho : ops[i]? = some ⟨some d, .indexAddr t x y, ty, pos, af, g⟩) (hg : gdB ops E g = true) (hd : Nat.ble (d + 1) C.n = true)
    (hx : ev E x = some (.slice base n c)) (hy : ev E y = some (.int k p)) (ht : Z1v C.P t = some e) (hs : Z1e C.P e = some s) (hb : base = none → n = 0) (h0 : 0 ≤ p) (h1 : p < n)
    (kk : TQ C ops Q l ((d, .pointer (some (ea base (p.toNat * s)))) :: E) H) : TQ C ops Q (i :: l) E H :=
  TQ.val ho hg hd (by simp) (fun a w hf hi => by
    cases base with
    | none => exact absurd h1 (by simp [hb rfl]; omega)
    | some b =>
      have hu := Z5m ht
      simp [execOp, hf.ev hx, hf.ev hy, Instr.indexAt, asIntOf, run_underlying hu, h0, h1, Z7i hs, ea]) kk
theorem TQ.index {t e : TypeId} {x y : Operand} {b o n c s : Nat} {k : IntKind} {p : Int} (ho : ops[i]? = some ⟨some d, .indexAddr t x y, ty, pos, af, g⟩) (hg : gdB ops E g = true) (hd : Nat.ble (d + 1) C.n = true)
    (hx : ev E x = some (.slice (some ⟨b, o, none⟩) n c)) (hy : ev E y = some (.int k p)) (ht : Z1v C.P t = some e) (hs : Z1e C.P e = some s) (h0 : 0 ≤ p) (h1 : p < n)
    (kk : TQ C ops Q l ((d, .pointer (some ⟨b, o + p.toNat * s, none⟩)) :: E) H) : TQ C ops Q (i :: l) E H :=
  Zjp ho hg hd hx hy ht hs (by simp) h0 h1 (by simpa [ea, Addr.add_mid] using kk)
theorem Zps {t e : TypeId} {x y : Operand} {b n c s : Nat} {k : IntKind} {p : Int} (ho : ops[i]? = some ⟨some d, .indexAddr t x y, ty, pos, af, g⟩) (hg : gdB ops E g = true) (hd : Nat.ble (d + 1) C.n = true)
    (hx : ev E x = some (.slice (some ⟨b, 0, none⟩) n c)) (hy : ev E y = some (.int k p)) (ht : Z1v C.P t = some e) (hs : Z1e C.P e = some s) (h0 : 0 ≤ p) (h1 : p < n)
    (kk : TQ C ops Q l ((d, .pointer (some ⟨b, p.toNat * s, none⟩)) :: E) H) : TQ C ops Q (i :: l) E H :=
  TQ.index ho hg hd hx hy ht hs h0 h1 (by rw [Nat.zero_add]; exact kk)
theorem Zdz {α : Type} {f : α → List Value} {M : List Nat} {w : World} {xs : List α} {t e : TypeId} {x y : Operand} {base : Option Addr} {n c s : Nat} {k : IntKind} {p : Int} (hr : RS w M f s base n c xs) (hp : inb p xs.length)
    (ho : ops[i]? = some ⟨some d, .indexAddr t x y, ty, pos, af, g⟩) (hg : gdB ops E g = true) (hd : Nat.ble (d + 1) C.n = true)
    (hx : ev E x = some (.slice base n c)) (hy : ev E y = some (.int k p)) (ht : Z1v C.P t = some e) (hs : Z1e C.P e = some s)
    (kk : TQ C ops Q l ((d, .pointer (some (ea base (p.toNat * s)))) :: E) H) : TQ C ops Q (i :: l) E H :=
  Zjp ho hg hd hx hy ht hs hr.ro.nil hp.1 (by have := hp.2; rw [hr.len] at this; exact this) kk
theorem TQ.ix0 {α : Type} {xs : List α} {t e : TypeId} {x y : Operand} {b n c s : Nat} {k : IntKind} {p : Int} (hn : xs.length = n) (hp : inb p xs.length)
    (ho : ops[i]? = some ⟨some d, .indexAddr t x y, ty, pos, af, g⟩) (hg : gdB ops E g = true) (hd : Nat.ble (d + 1) C.n = true)
    (hx : ev E x = some (.slice (some ⟨b, 0, none⟩) n c)) (hy : ev E y = some (.int k p)) (ht : Z1v C.P t = some e) (hs : Z1e C.P e = some s)
    (kk : TQ C ops Q l ((d, .pointer (some ⟨b, p.toNat * s, none⟩)) :: E) H) : TQ C ops Q (i :: l) E H :=
  Zps ho hg hd hx hy ht hs hp.1 (by have := hp.2; rw [hn] at this; exact this) kk
theorem TQ.faR {s : TypeId} {x : Operand} {f o n : Nat} {base : Option Addr} (ho : ops[i]? = some ⟨some d, .fieldAddr s x f, ty, pos, af, g⟩) (hg : gdB ops E g = true) (hd : Nat.ble (d + 1) C.n = true)
    (hx : ev E x = some (.pointer (some (ea base n)))) (hT : Z17 C.P s f = some o) (kk : TQ C ops Q l ((d, .pointer (some (ea base (n + o)))) :: E) H) : TQ C ops Q (i :: l) E H :=
  TQ.val ho hg hd (by simp) (fun a w hf _ => by simp [execOp, hf.ev hx, Zdm hT, Zl4]) kk
theorem Zbc {t : TypeId} {x : Operand} {base : Option Addr} {n c : Nat} {k : IntKind} {p : Int} {xs : List Int} (hr : RS C.w0 C.M (intC k) 1 base n c xs) (hp : inb p xs.length) (ho : ops[i]? = some ⟨some d, .load t x, ty, pos, af, g⟩) (hg : gdB ops E g = true) (hd : Nat.ble (d + 1) C.n = true)
    (hx : ev E x = some (.pointer (some (ea base (p.toNat * 1))))) (hT : Z2j C.P t = true)
    (kk : TQ C ops Q l ((d, .int k (xs.getD p.toNat 0)) :: E) H) : TQ C ops Q (i :: l) E H :=
  TQ.load ho hg hd hx hT (fun w hi => by
    have := (hr.ro.monoM hr.far hi).at 0 (o := p.toNat) (c := 0) (Z9s hp) (by omega)
    simpa using this) kk
theorem TQ.ldIO {t T' : TypeId} {x : Operand} {b : Nat} {k : IntKind} {p : Int} {xs : List Int} {j : List Value} {fr : Nat × Nat} (hp : inb p xs.length) (ho : ops[i]? = some ⟨some d, .load t x, ty, pos, af, g⟩) (hg : gdB ops E g = true) (hd : Nat.ble (d + 1) C.n = true)
    (hx : ev E x = some (.pointer (some ⟨b, p.toNat, none⟩))) (hT : Z2j C.P t = true) (hm : (some b, Obj.cells (arr (intC k) xs j).toArray T' fr) ∈ H)
    (kk : TQ C ops Q l ((d, .int k (xs.getD p.toNat 0)) :: E) H) : TQ C ops Q (i :: l) E H := TQ.ldI ho hg hd hx hT hm (Z9s hp) kk
theorem TQ.ldFO {α : Type} {f : α → List Value} {s : Nat} {t T' : TypeId} {x : Operand} {b q : Nat} {p : Int} {xs : List α} {j : List Value} {fr : Nat × Nat} {v : Value} (dflt : α) (hf : ∀ x, (f x).length = s) (hp : inb p xs.length) (hv : (f (xs.getD p.toNat dflt))[q]? = some v)
    (ho : ops[i]? = some ⟨some d, .load t x, ty, pos, af, g⟩) (hg : gdB ops E g = true) (hd : Nat.ble (d + 1) C.n = true)
    (hx : ev E x = some (.pointer (some ⟨b, p.toNat * s + q, none⟩))) (hT : Z2j C.P t = true) (hm : (some b, Obj.cells (arr f xs j).toArray T' fr) ∈ H)
    (kk : TQ C ops Q l ((d, v) :: E) H) : TQ C ops Q (i :: l) E H :=
  Z2y ho hg hd hx hT hm (by
    have hqs : q < s := by rw [← hf (xs.getD p.toNat dflt)]; exact (List.getElem?_eq_some_iff.1 hv).1
    have := Zdb hf dflt xs j p.toNat q (Z9s hp) hqs
    rw [List.getElem?_toArray, this]; exact hv) kk
theorem TQ.addG {t t2 : TypeId} {x y : Operand} {p q : Int} (h : i64ok (p + q)) (ho : ops[i]? = some ⟨some d, .binOp .add t x y t2, ty, pos, af, g⟩) (hg : gdB ops E g = true) (hd : Nat.ble (d + 1) C.n = true) (hx : ev E x = some (.int .i64 p)) (hy : ev E y = some (.int .i64 q))
    (kk : TQ C ops Q l ((d, .int .i64 (p + q)) :: E) H) : TQ C ops Q (i :: l) E H := TQ.add ho hg hd hx hy h.1 h.2 kk
theorem Zpr {t : TypeId} {x : Operand} {b o : Nat} {cs : List Value} {v : Value} (hc : HB C.w0 C.M b cs) (hv : cs[o]? = some v) (ho : ops[i]? = some ⟨some d, .load t x, ty, pos, af, g⟩) (hg : gdB ops E g = true) (hd : Nat.ble (d + 1) C.n = true)
    (hx : ev E x = some (.pointer (some ⟨b, o, none⟩))) (hT : Z2j C.P t = true)
    (kk : TQ C ops Q l ((d, v) :: E) H) : TQ C ops Q (i :: l) E H := TQ.load ho hg hd hx hT (fun w hi => hi.cell_old (hc.has o v hv) hc.far) kk
theorem TQ.ldHBA {t : TypeId} {x : Operand} {b k : Nat} {cs : List Value} (hc : HB C.w0 C.M b cs) (hk : cs.length = k) (ho : ops[i]? = some ⟨some d, .load t x, ty, pos, af, g⟩) (hg : gdB ops E g = true) (hd : Nat.ble (d + 1) C.n = true)
    (hx : ev E x = some (.pointer (some ⟨b, 0, none⟩))) (hT : Zaf C.P t k = true)
    (kk : TQ C ops Q l ((d, .agg cs.toArray) :: E) H) : TQ C ops Q (i :: l) E H :=
  TQ.loadS ho hg hd hx hT hk (fun w hi j v hv => by rw [Addr.add_mid, Nat.zero_add]; exact hi.cell_old (hc.has j v hv) hc.far) kk
theorem Zdy {α : Type} {xs : List α} {t e : TypeId} {x y : Operand} {ob : Option Nat} {n c s : Nat} {k : IntKind} {p : Int} (hz : ob = none → c = 0) (hc : n ≤ c) (hn : xs.length = n) (hp : inb p xs.length)
    (ho : ops[i]? = some ⟨some d, .indexAddr t x y, ty, pos, af, g⟩) (hg : gdB ops E g = true) (hd : Nat.ble (d + 1) C.n = true)
    (hx : ev E x = some (.slice (sb ob) n c)) (hy : ev E y = some (.int k p)) (ht : Z1v C.P t = some e) (hs : Z1e C.P e = some s)
    (kk : TQ C ops Q l ((d, .pointer (some (ea (sb ob) (p.toNat * s)))) :: E) H) : TQ C ops Q (i :: l) E H := by
  obtain ⟨b, rfl⟩ := Z7e hz hc hn hp
  exact TQ.ix0 hn hp ho hg hd hx hy ht hs (by rw [← Z9h]; exact kk)
theorem Zcc {t T' : TypeId} {x : Operand} {ob : Option Nat} {n c : Nat} {k : IntKind} {p : Int} {xs : List Int} {j : List Value} {fr : Nat × Nat} (hz : ob = none → c = 0) (hc : n ≤ c) (hn : xs.length = n) (hp : inb p xs.length) (ho : ops[i]? = some ⟨some d, .load t x, ty, pos, af, g⟩) (hg : gdB ops E g = true) (hd : Nat.ble (d + 1) C.n = true)
    (hx : ev E x = some (.pointer (some (ea (sb ob) (p.toNat * 1))))) (hT : Z2j C.P t = true) (hm : (ob, Obj.cells (arr (intC k) xs j).toArray T' fr) ∈ H)
    (kk : TQ C ops Q l ((d, .int k (xs.getD p.toNat 0)) :: E) H) : TQ C ops Q (i :: l) E H := by
  obtain ⟨b, rfl⟩ := Z7e hz hc hn hp
  exact TQ.ldIO hp ho hg hd (by rw [← Z9h, ← Nat.mul_one p.toNat]; exact hx) hT hm kk
theorem TQ.ldFV {α : Type} {f : α → List Value} {s : Nat} {t T' : TypeId} {x : Operand} {ob : Option Nat} {n c q : Nat} {p : Int} {xs : List α} {j : List Value} {fr : Nat × Nat} {v : Value} (dflt : α) (hf : ∀ x, (f x).length = s) (hz : ob = none → c = 0) (hc : n ≤ c) (hn : xs.length = n) (hp : inb p xs.length) (hv : (f (xs.getD p.toNat dflt))[q]? = some v)
    (ho : ops[i]? = some ⟨some d, .load t x, ty, pos, af, g⟩) (hg : gdB ops E g = true) (hd : Nat.ble (d + 1) C.n = true)
    (hx : ev E x = some (.pointer (some (ea (sb ob) (p.toNat * s + q))))) (hT : Z2j C.P t = true) (hm : (ob, Obj.cells (arr f xs j).toArray T' fr) ∈ H)
    (kk : TQ C ops Q l ((d, v) :: E) H) : TQ C ops Q (i :: l) E H := by
  obtain ⟨b, rfl⟩ := Z7e hz hc hn hp
  exact TQ.ldFO dflt hf hp hv ho hg hd (by rw [← Z9h]; exact hx) hT hm kk
end rules
end Go.Acq
namespace Go.Acq
open Go Go.RowKit
theorem Zo2 {α : Type} {xs : List α} {k : Nat} (h : Nat.blt k xs.length = true) : inb (k : Int) xs.length := ⟨Int.natCast_nonneg k, Int.ofNat_lt.2 (Nat.le_of_ble_eq_true h)⟩
section rules
variable {C : Cx} {ops : Array Oper} {Q : Exit → Act → World → Prop} {l : List Nat} {E : Env} {H R : Heap} {i d : Nat} {ty : TypeId} {pos : String} {af : Array Edge} {g : Option (Nat × Bool)}
end rules
end Go.Acq
namespace Go.Acq
open Go Go.RowKit
section
variable {C : Cx} {Q : Exit → Act → World → Prop} {E : Env} {H : Heap} {c x y : Code}
end
end Go.Acq
namespace Go.Acq
open Go
end Go.Acq
namespace Go.Acq
open Go Go.RowKit
theorem mm0 {α : Type} {x : α} {l : List α} : x ∈ x :: l := .head _
theorem mm1 {α : Type} {a0 x : α} {l : List α} : x ∈ a0 :: x :: l := .tail _ mm0
theorem mm2 {α : Type} {a0 a1 x : α} {l : List α} : x ∈ a0 :: a1 :: x :: l := .tail _ mm1
theorem mm3 {α : Type} {a0 a1 a2 x : α} {l : List α} : x ∈ a0 :: a1 :: a2 :: x :: l := .tail _ mm2
theorem mm4 {α : Type} {a0 a1 a2 a3 x : α} {l : List α} : x ∈ a0 :: a1 :: a2 :: a3 :: x :: l := .tail _ mm3
theorem mm5 {α : Type} {a0 a1 a2 a3 a4 x : α} {l : List α} : x ∈ a0 :: a1 :: a2 :: a3 :: a4 :: x :: l := .tail _ mm4
theorem mm6 {α : Type} {a0 a1 a2 a3 a4 a5 x : α} {l : List α} : x ∈ a0 :: a1 :: a2 :: a3 :: a4 :: a5 :: x :: l := .tail _ mm5
theorem mm7 {α : Type} {a0 a1 a2 a3 a4 a5 a6 x : α} {l : List α} : x ∈ a0 :: a1 :: a2 :: a3 :: a4 :: a5 :: a6 :: x :: l := .tail _ mm6
theorem mm8 {α : Type} {a0 a1 a2 a3 a4 a5 a6 a7 x : α} {l : List α} : x ∈ a0 :: a1 :: a2 :: a3 :: a4 :: a5 :: a6 :: a7 :: x :: l := .tail _ mm7
theorem mm9 {α : Type} {a0 a1 a2 a3 a4 a5 a6 a7 a8 x : α} {l : List α} : x ∈ a0 :: a1 :: a2 :: a3 :: a4 :: a5 :: a6 :: a7 :: a8 :: x :: l := .tail _ mm8
theorem mm10 {α : Type} {a0 a1 a2 a3 a4 a5 a6 a7 a8 a9 x : α} {l : List α} : x ∈ a0 :: a1 :: a2 :: a3 :: a4 :: a5 :: a6 :: a7 :: a8 :: a9 :: x :: l := .tail _ mm9
theorem mm11 {α : Type} {a0 a1 a2 a3 a4 a5 a6 a7 a8 a9 a10 x : α} {l : List α} : x ∈ a0 :: a1 :: a2 :: a3 :: a4 :: a5 :: a6 :: a7 :: a8 :: a9 :: a10 :: x :: l := .tail _ mm10
theorem mm12 {α : Type} {a0 a1 a2 a3 a4 a5 a6 a7 a8 a9 a10 a11 x : α} {l : List α} : x ∈ a0 :: a1 :: a2 :: a3 :: a4 :: a5 :: a6 :: a7 :: a8 :: a9 :: a10 :: a11 :: x :: l := .tail _ mm11
theorem mm13 {α : Type} {a0 a1 a2 a3 a4 a5 a6 a7 a8 a9 a10 a11 a12 x : α} {l : List α} : x ∈ a0 :: a1 :: a2 :: a3 :: a4 :: a5 :: a6 :: a7 :: a8 :: a9 :: a10 :: a11 :: a12 :: x :: l := .tail _ mm12
theorem mm14 {α : Type} {a0 a1 a2 a3 a4 a5 a6 a7 a8 a9 a10 a11 a12 a13 x : α} {l : List α} : x ∈ a0 :: a1 :: a2 :: a3 :: a4 :: a5 :: a6 :: a7 :: a8 :: a9 :: a10 :: a11 :: a12 :: a13 :: x :: l := .tail _ mm13
theorem mm15 {α : Type} {a0 a1 a2 a3 a4 a5 a6 a7 a8 a9 a10 a11 a12 a13 a14 x : α} {l : List α} : x ∈ a0 :: a1 :: a2 :: a3 :: a4 :: a5 :: a6 :: a7 :: a8 :: a9 :: a10 :: a11 :: a12 :: a13 :: a14 :: x :: l := .tail _ mm14
theorem mm16 {α : Type} {a0 a1 a2 a3 a4 a5 a6 a7 a8 a9 a10 a11 a12 a13 a14 a15 x : α} {l : List α} : x ∈ a0 :: a1 :: a2 :: a3 :: a4 :: a5 :: a6 :: a7 :: a8 :: a9 :: a10 :: a11 :: a12 :: a13 :: a14 :: a15 :: x :: l := .tail _ mm15
theorem mm17 {α : Type} {a0 a1 a2 a3 a4 a5 a6 a7 a8 a9 a10 a11 a12 a13 a14 a15 a16 x : α} {l : List α} : x ∈ a0 :: a1 :: a2 :: a3 :: a4 :: a5 :: a6 :: a7 :: a8 :: a9 :: a10 :: a11 :: a12 :: a13 :: a14 :: a15 :: a16 :: x :: l := .tail _ mm16
theorem mm18 {α : Type} {a0 a1 a2 a3 a4 a5 a6 a7 a8 a9 a10 a11 a12 a13 a14 a15 a16 a17 x : α} {l : List α} : x ∈ a0 :: a1 :: a2 :: a3 :: a4 :: a5 :: a6 :: a7 :: a8 :: a9 :: a10 :: a11 :: a12 :: a13 :: a14 :: a15 :: a16 :: a17 :: x :: l := .tail _ mm17
theorem mm19 {α : Type} {a0 a1 a2 a3 a4 a5 a6 a7 a8 a9 a10 a11 a12 a13 a14 a15 a16 a17 a18 x : α} {l : List α} : x ∈ a0 :: a1 :: a2 :: a3 :: a4 :: a5 :: a6 :: a7 :: a8 :: a9 :: a10 :: a11 :: a12 :: a13 :: a14 :: a15 :: a16 :: a17 :: a18 :: x :: l := .tail _ mm18
theorem mm20 {α : Type} {a0 a1 a2 a3 a4 a5 a6 a7 a8 a9 a10 a11 a12 a13 a14 a15 a16 a17 a18 a19 x : α} {l : List α} : x ∈ a0 :: a1 :: a2 :: a3 :: a4 :: a5 :: a6 :: a7 :: a8 :: a9 :: a10 :: a11 :: a12 :: a13 :: a14 :: a15 :: a16 :: a17 :: a18 :: a19 :: x :: l := .tail _ mm19
theorem mm21 {α : Type} {a0 a1 a2 a3 a4 a5 a6 a7 a8 a9 a10 a11 a12 a13 a14 a15 a16 a17 a18 a19 a20 x : α} {l : List α} : x ∈ a0 :: a1 :: a2 :: a3 :: a4 :: a5 :: a6 :: a7 :: a8 :: a9 :: a10 :: a11 :: a12 :: a13 :: a14 :: a15 :: a16 :: a17 :: a18 :: a19 :: a20 :: x :: l := .tail _ mm20
theorem tk0 {x : Option Nat × Obj} {l : Heap} : Take x (x :: l) (l) := Take.head _ _
theorem tk1 {a0 x : Option Nat × Obj} {l : Heap} : Take x (a0 :: x :: l) (a0 :: l) := Take.tail tk0
theorem tk2 {a0 a1 x : Option Nat × Obj} {l : Heap} : Take x (a0 :: a1 :: x :: l) (a0 :: a1 :: l) := Take.tail tk1
theorem tk3 {a0 a1 a2 x : Option Nat × Obj} {l : Heap} : Take x (a0 :: a1 :: a2 :: x :: l) (a0 :: a1 :: a2 :: l) := Take.tail tk2
theorem tk4 {a0 a1 a2 a3 x : Option Nat × Obj} {l : Heap} : Take x (a0 :: a1 :: a2 :: a3 :: x :: l) (a0 :: a1 :: a2 :: a3 :: l) := Take.tail tk3
theorem tk5 {a0 a1 a2 a3 a4 x : Option Nat × Obj} {l : Heap} : Take x (a0 :: a1 :: a2 :: a3 :: a4 :: x :: l) (a0 :: a1 :: a2 :: a3 :: a4 :: l) := Take.tail tk4
theorem tk6 {a0 a1 a2 a3 a4 a5 x : Option Nat × Obj} {l : Heap} : Take x (a0 :: a1 :: a2 :: a3 :: a4 :: a5 :: x :: l) (a0 :: a1 :: a2 :: a3 :: a4 :: a5 :: l) := Take.tail tk5
theorem tk7 {a0 a1 a2 a3 a4 a5 a6 x : Option Nat × Obj} {l : Heap} : Take x (a0 :: a1 :: a2 :: a3 :: a4 :: a5 :: a6 :: x :: l) (a0 :: a1 :: a2 :: a3 :: a4 :: a5 :: a6 :: l) := Take.tail tk6
theorem tk8 {a0 a1 a2 a3 a4 a5 a6 a7 x : Option Nat × Obj} {l : Heap} : Take x (a0 :: a1 :: a2 :: a3 :: a4 :: a5 :: a6 :: a7 :: x :: l) (a0 :: a1 :: a2 :: a3 :: a4 :: a5 :: a6 :: a7 :: l) := Take.tail tk7
theorem tk9 {a0 a1 a2 a3 a4 a5 a6 a7 a8 x : Option Nat × Obj} {l : Heap} : Take x (a0 :: a1 :: a2 :: a3 :: a4 :: a5 :: a6 :: a7 :: a8 :: x :: l) (a0 :: a1 :: a2 :: a3 :: a4 :: a5 :: a6 :: a7 :: a8 :: l) := Take.tail tk8
theorem tk10 {a0 a1 a2 a3 a4 a5 a6 a7 a8 a9 x : Option Nat × Obj} {l : Heap} : Take x (a0 :: a1 :: a2 :: a3 :: a4 :: a5 :: a6 :: a7 :: a8 :: a9 :: x :: l) (a0 :: a1 :: a2 :: a3 :: a4 :: a5 :: a6 :: a7 :: a8 :: a9 :: l) := Take.tail tk9
theorem tk11 {a0 a1 a2 a3 a4 a5 a6 a7 a8 a9 a10 x : Option Nat × Obj} {l : Heap} : Take x (a0 :: a1 :: a2 :: a3 :: a4 :: a5 :: a6 :: a7 :: a8 :: a9 :: a10 :: x :: l) (a0 :: a1 :: a2 :: a3 :: a4 :: a5 :: a6 :: a7 :: a8 :: a9 :: a10 :: l) := Take.tail tk10
theorem tk12 {a0 a1 a2 a3 a4 a5 a6 a7 a8 a9 a10 a11 x : Option Nat × Obj} {l : Heap} : Take x (a0 :: a1 :: a2 :: a3 :: a4 :: a5 :: a6 :: a7 :: a8 :: a9 :: a10 :: a11 :: x :: l) (a0 :: a1 :: a2 :: a3 :: a4 :: a5 :: a6 :: a7 :: a8 :: a9 :: a10 :: a11 :: l) := Take.tail tk11
theorem tk13 {a0 a1 a2 a3 a4 a5 a6 a7 a8 a9 a10 a11 a12 x : Option Nat × Obj} {l : Heap} : Take x (a0 :: a1 :: a2 :: a3 :: a4 :: a5 :: a6 :: a7 :: a8 :: a9 :: a10 :: a11 :: a12 :: x :: l) (a0 :: a1 :: a2 :: a3 :: a4 :: a5 :: a6 :: a7 :: a8 :: a9 :: a10 :: a11 :: a12 :: l) := Take.tail tk12
theorem tk14 {a0 a1 a2 a3 a4 a5 a6 a7 a8 a9 a10 a11 a12 a13 x : Option Nat × Obj} {l : Heap} : Take x (a0 :: a1 :: a2 :: a3 :: a4 :: a5 :: a6 :: a7 :: a8 :: a9 :: a10 :: a11 :: a12 :: a13 :: x :: l) (a0 :: a1 :: a2 :: a3 :: a4 :: a5 :: a6 :: a7 :: a8 :: a9 :: a10 :: a11 :: a12 :: a13 :: l) := Take.tail tk13
theorem tk15 {a0 a1 a2 a3 a4 a5 a6 a7 a8 a9 a10 a11 a12 a13 a14 x : Option Nat × Obj} {l : Heap} : Take x (a0 :: a1 :: a2 :: a3 :: a4 :: a5 :: a6 :: a7 :: a8 :: a9 :: a10 :: a11 :: a12 :: a13 :: a14 :: x :: l) (a0 :: a1 :: a2 :: a3 :: a4 :: a5 :: a6 :: a7 :: a8 :: a9 :: a10 :: a11 :: a12 :: a13 :: a14 :: l) := Take.tail tk14
theorem tk16 {a0 a1 a2 a3 a4 a5 a6 a7 a8 a9 a10 a11 a12 a13 a14 a15 x : Option Nat × Obj} {l : Heap} : Take x (a0 :: a1 :: a2 :: a3 :: a4 :: a5 :: a6 :: a7 :: a8 :: a9 :: a10 :: a11 :: a12 :: a13 :: a14 :: a15 :: x :: l) (a0 :: a1 :: a2 :: a3 :: a4 :: a5 :: a6 :: a7 :: a8 :: a9 :: a10 :: a11 :: a12 :: a13 :: a14 :: a15 :: l) := Take.tail tk15
def Z7x : Value → Nat → Value
  | .agg cs, q => cs.getD q undef
  | _, _ => undef
theorem Gone.refl (R : Heap) : List.Perm R ([] ++ R) := List.Perm.refl R
section rules
variable {C : Cx} {ops : Array Oper} {Q : Exit → Act → World → Prop} {l : List Nat} {E : Env} {H R : Heap} {i d : Nat} {ty : TypeId} {pos : String} {af : Array Edge} {g : Option (Nat × Bool)}
theorem TO.nilCheck {x : Operand} {p : Addr} (ho : ops[i]? = some ⟨some d, .nilCheck x, ty, pos, af, g⟩) (hg : gdB ops E g = true) (hd : Nat.ble (d + 1) C.n = true) (hx : ev E x = some (.pointer (some p)))
    (k : TO C ops Q l ((d, .pointer (some p)) :: E) H) : TO C ops Q (i :: l) E H :=
  TO.val ho hg hd (by simp) (fun a w hf _ => by simp [execOp, hf.ev hx]) k
end rules
section rules
variable {C : Cx} {ops : Array Oper} {Q : Act → Prop} {l : List Nat} {E : Env} {H R : Heap} {i d : Nat} {ty : TypeId} {pos : String} {af : Array Edge} {g : Option (Nat × Bool)}
theorem TQ.nilCheck {x : Operand} {p : Addr} (ho : ops[i]? = some ⟨some d, .nilCheck x, ty, pos, af, g⟩) (hg : gdB ops E g = true) (hd : Nat.ble (d + 1) C.n = true) (hx : ev E x = some (.pointer (some p)))
    (k : TQ C ops Q l ((d, .pointer (some p)) :: E) H) : TQ C ops Q (i :: l) E H :=
  TQ.val ho hg hd (by simp) (fun a w hf _ => by simp [execOp, hf.ev hx]) k
end rules
section draw
variable {C : Cx} {ops : Array Oper} {Q : Exit → Act → World → Prop} {E : Env} {H : Heap}
theorem Zck {A B Tl : Heap} (X Hx : Heap) : List.Perm (X ++ ((A ++ Tl) ++ (B ++ Hx))) (X ++ (A ++ (B ++ (Tl ++ Hx)))) := by
 refine List.Perm.append_left X ?_
 rw [List.append_assoc]
 refine List.Perm.append_left A ?_
 rw [← List.append_assoc, ← List.append_assoc]
 exact List.Perm.append_right Hx List.perm_append_comm
theorem ObQ.tail {S : List Sp} {W : Env} {Hc : Heap} {i : Nat} (Tl : Heap) (h : ObQ C ops Q S W Hc i) : ObQ C ops Q S W (Hc ++ Tl) i := by
 intro vs es Es Hx hr a w hf hi
 refine Zbf (l2 := []) (fun e a w hne hq => ?_) (fun a w hq => ?_) [i] a w (h vs es Es (Tl ++ Hx) hr a w hf (hi.perm (Zck [] Hx)))
 · cases e <;> first | exact absurd rfl hne | exact hq
 ·
  obtain ⟨v, e', h1, h2, h3⟩ := hq
  exact ⟨v, e', h1, h2, h3.perm (Zck e' Hx).symm⟩
theorem ObE.tail {S : List Sp} {HR : Nat → List Value → Heap → Prop} {hd : List (List Nat)} {W : Env} {Hc : Heap} {i : Nat} (Tl : Heap) (h : ObE C ops Q S HR hd W Hc i) : ObE C ops Q S HR hd W (Hc ++ Tl) i := by
 intro vs es Es Hx hb hr hh a w hf hi
 refine Zbf (l2 := []) (fun e a w hne hq => ?_) (fun a w hq => ?_) [i] a w (h vs es Es (Tl ++ Hx) hb hr hh a w hf (hi.perm (Zck hb Hx)))
 · cases e <;> first | exact absurd rfl hne | exact hq
 ·
  obtain ⟨v, hb', h1, h2, h3, h4⟩ := hq
  exact ⟨v, hb', h1, h2, h3, h4.perm (Zck hb' Hx).symm⟩
theorem ObsG.tail {S : List Sp} {HR : Nat → List Value → Heap → Prop} {hd : List (List Nat)} {W : Env} {Hc : Heap} (Tl : Heap) : ∀ {l : List Nat}, ObsG C ops Q S HR hd W Hc l → ObsG C ops Q S HR hd W (Hc ++ Tl) l
 | [], _ => trivial
 | i :: l, ⟨h1, h2⟩ => by
  refine ⟨?_, ObsG.tail Tl h2⟩
  cases he : Zef S i with
  | true => rw [he] at h1; exact ObE.tail Tl h1
  | false => rw [he] at h1; exact ObQ.tail Tl h1
end draw
end Go.Acq
namespace Go.Acq
open Go Go.RowKit Go.Conc
abbrev chanO (q : IntKind) (x : Chan) (s r : Nat) : Obj := .chan x.cap (x.buf.map (Value.int q)).toArray false s r false
def wpK (P : Program) (c : Code) (Q : Exit → Act → World → Prop) (a : Act) (w : World) : Prop :=
  ∀ (b : Frame) (k : List Item) (cs : List Frame), b.kind ≠ .early → b.roundOf = none →
    ∃ e a' w', Q e a' w' ∧ ArrivesIn (Machine.fenced P (FW none)) P (lone (b.atR a (.code c :: k)) cs w) b k cs e a' w'
def wpOK (P : Program) (ops : Array Oper) (Q : Exit → Act → World → Prop) (l : List Nat) (a : Act) (w : World) : Prop :=
  ∀ (b : Frame) (k : List Item) (cs : List Frame), b.kind ≠ .early → b.roundOf = none →
    ∃ e a' w', Q e a' w' ∧ ArrivesIn (Machine.fenced P (FW none)) P (lone (b.atR a (.inRegion ops l :: k)) cs w) b k cs e a' w'
def TK (C : Cx) (c : Code) (Q : Exit → Act → World → Prop) (E : Env) (H : Heap) : Prop := ∀ a w, Fits C.n C.D E a → Inv C.w0 C.M w H → wpK C.P c Q a w
def TOK (C : Cx) (ops : Array Oper) (Q : Exit → Act → World → Prop) (l : List Nat) (E : Env) (H : Heap) : Prop := ∀ a w, Fits C.n C.D E a → Inv C.w0 C.M w H → wpOK C.P ops Q l a w
def blkAt : Value → Nat
  | .pointer (some a) => a.block
  | _ => 0
theorem Zet (n : Nat) : (FW none).room n := fun d hd => by cases hd
section
variable {C : Cx} {Q : Exit → Act → World → Prop} {E E' : Env} {H H' R : Heap} {x y c : Code} {ops : Array Oper} {l : List Nat} {i d : Nat} {ty : TypeId} {pos : String} {af : Array Edge} {g : Option (Nat × Bool)}
theorem Zby (hρ : C.ρ = none) (h : T C c Q E H) : TK C c Q E H := fun a w hf hi b k cs _ hro => by
 have := h a w hf hi
 rw [hρ] at this
 exact this b k cs hro trivial (Zet _)
theorem TK.seq (h : TK C x (Exit.then (wpK C.P y Q) Q) E H) : TK C (.seq x y) Q E H := fun a w hf hi b k cs hk hro => by
 have h0 : (lone (b.atR a (.code (.seq x y) :: k)) cs w).fenced C.P (FW none) := fenced_calm trivial (Zet (cs.length + 1 + 0)) rfl
 obtain ⟨e, a₁, w₁, hq, harr⟩ := h a w hf hi b (.code y :: k) cs hk hro
 cases e with
 | normal =>
  obtain ⟨e₂, a₂, w₂, hq₂, harr₂⟩ := hq b k cs hk hro
  exact ⟨e₂, a₂, w₂, hq₂, .of_steps (.head h0 stepR_seq harr) harr₂⟩
 | exit id => exact ⟨_, a₁, w₁, hq, .of_steps (.one h0 stepR_seq) (.pass (x := .code y) rfl (fun _ _ => .inl (by simp)) harr)⟩
 | goto l => exact ⟨_, a₁, w₁, hq, .of_steps (.one h0 stepR_seq) (.pass (x := .code y) rfl (fun _ _ => .inl (by simp)) harr)⟩
 | ret => exact ⟨_, a₁, w₁, hq, .of_steps (.one h0 stepR_seq) (.pass (x := .code y) rfl (fun _ _ => .inl (by simp)) harr)⟩
 | panic ch => exact ⟨_, a₁, w₁, hq, .of_steps (.one h0 stepR_seq) (.pass (x := .code y) rfl (fun _ _ => .inl (by simp)) harr)⟩
 | outgrown => exact ⟨_, a₁, w₁, hq, .of_steps (.one h0 stepR_seq) (.pass (x := .code y) rfl (fun _ _ => .inl (by simp)) harr)⟩
theorem Z32 (h : TK C y Q E H) : X C (Exit.then (wpK C.P y Q) Q) .normal E H := h
theorem TK.block {id : Nat} (h : TK C c (Exit.inBlock id Q) E H) : TK C (.block id c) Q E H := fun a w hf hi b k cs hk hro => by
 have h0 : (lone (b.atR a (.code (.block id c) :: k)) cs w).fenced C.P (FW none) := fenced_calm trivial (Zet (cs.length + 1 + 0)) rfl
 obtain ⟨e, a₁, w₁, hq, harr⟩ := h a w hf hi b (.inBlock id :: k) cs hk hro
 cases e with
 | normal => exact ⟨.normal, a₁, w₁, hq, .head h0 stepR_block (StepsIn.trans harr (.one (fenced_calm trivial (Zet (cs.length + 1 + 0)) rfl) stepR_inBlock))⟩
 | exit id' =>
  by_cases hid : id' = id
  ·
   simp only [Exit.inBlock, hid, if_true] at hq
   exact ⟨.normal, a₁, w₁, hq, .head h0 stepR_block (harr.1 k (by simp [exitTo, hid]))⟩
  ·
   simp only [Exit.inBlock, hid, if_false] at hq
   have this : (id == id') = false := by simp; exact fun h => hid h.symm
   have hx : exitTo id' (.inBlock id :: k) = exitTo id' k := by simp [exitTo, this]
   exact ⟨.exit id', a₁, w₁, hq, fun k' hk => .head h0 stepR_block (harr.1 k' (by rw [hx]; exact hk)),
    fun hr' hk => let ⟨k₁, h1, h2⟩ := harr.2 hr' (by rw [hx]; exact hk); ⟨k₁, h1, .head h0 stepR_block h2⟩⟩
 | goto l =>
  have hx : gotoIn l (.inBlock id :: k) = gotoIn l k := by simp [gotoIn]
  exact ⟨_, a₁, w₁, hq, fun k' hk => .head h0 stepR_block (harr.1 k' (by rw [hx]; exact hk)),
   fun hr' hk => let ⟨k₁, h1, h2⟩ := harr.2 hr' (by rw [hx]; exact hk); ⟨k₁, h1, .head h0 stepR_block h2⟩⟩
 | ret => exact ⟨_, a₁, w₁, hq, .of_steps (.one h0 stepR_block) harr⟩
 | panic ch => exact ⟨_, a₁, w₁, hq, .of_steps (.one h0 stepR_block) harr⟩
 | outgrown => exact ⟨_, a₁, w₁, hq, .of_steps (.one h0 stepR_block) harr⟩
theorem Zlj {o : Operand} {t : Bool} (ho : ev E o = some (.bool t)) (h : TK C (if t then x else y) Q E H) : TK C (.cond o x y) Q E H := fun a w hf hi b k cs hk hro =>
 let ⟨e, a', w', q, r⟩ := h a w hf hi b k cs hk hro; ⟨e, a', w', q, .of_steps (.one (fenced_calm trivial (Zet (cs.length + 1 + 0)) rfl) (stepR_cond (hf.ev ho))) r⟩
theorem Zi9 {o : Operand} {b : Bool} (ho : ev E o = some (.bool b)) (hb : b = true) (ht : TK C x Q E H) : TK C (.cond o x y) Q E H := by subst hb; exact Zlj ho ht
theorem Zia {o : Operand} {b : Bool} (ho : ev E o = some (.bool b)) (hb : b = false) (ht : TK C y Q E H) : TK C (.cond o x y) Q E H := by subst hb; exact Zlj ho ht
theorem TK.condPT {o : Operand} {p : Prop} {hp : Decidable p} (ho : ev E o = some (.bool (@decide p hp))) (hb : p) (ht : TK C x Q E H) : TK C (.cond o x y) Q E H := Zi9 ho (decide_eq_true hb) ht
theorem TK.condPF {o : Operand} {p : Prop} {hp : Decidable p} (ho : ev E o = some (.bool (@decide p hp))) (hb : ¬p) (ht : TK C y Q E H) : TK C (.cond o x y) Q E H := Zia ho (decide_eq_false hb) ht
theorem TK.skip (hρ : C.ρ = none) (h : X C Q .normal E H) : TK C .skip Q E H := Zby hρ (T.skip h)
theorem TK.ret (hρ : C.ρ = none) (h : X C Q .ret E H) : TK C .ret Q E H := Zby hρ (T.ret h)
theorem TK.weak (h : TK C c Q E' H') (hE : ∀ t v, Z5b E' t = some v → Z5b E t = some v) (hH : Pick H' H) : TK C c Q E H := fun a w hf hi => h a w (hf.weak hE) (hi.pick hH)
theorem Zkp (h : AllF E' E) (k : TK C c Q E' H) : TK C c Q E H := fun a w hf hi => k a w (hf.weak fun t v hv => h.sub t v hv) hi
theorem TK.region {id : Nat} {ll : List Nat} (hl : List.range ops.size = ll) (h : TOK C ops Q ll E H) : TK C (.region id ops false) Q E H := fun a w hf hi b k cs hk hro => by
 subst hl
 exact let ⟨e, a', w', q, r⟩ := h a w hf hi b k cs hk hro; ⟨e, a', w', q, .of_steps (.one (fenced_calm trivial (Zet (cs.length + 1 + 0)) rfl) stepR_region) r⟩
theorem Zi7 (hρ : C.ρ = none) (h : TO C ops Q l E H) : TOK C ops Q l E H := fun a w hf hi b k cs _ hro => by
 have := h a w hf hi
 rw [hρ] at this
 exact wp_opsIn l a w this b k cs hro trivial (Zet _)
theorem wpQ_K {P : Program} {K : World → Prop} (l2 : List Nat) (l : List Nat) : ∀ a : Act, wpQ P ops K (fun a => ∀ w, K w → wpOK P ops Q l2 a w) l a → ∀ w, K w → wpOK P ops Q (l ++ l2) a w := by
 induction l with
 | nil => exact fun a h w hw => h w hw
 | cons i rest ih =>
  intro a h w hw b k cs hk hro
  have hb : (FW none).fn b.fn := trivial
  have hr := Zet (cs.length + 1 + 0)
  simp only [wpQ] at h
  show ∃ e a' w', Q e a' w' ∧ ArrivesIn (Machine.fenced P (FW none)) P (lone (b.atR a (.inRegion ops (i :: (rest ++ l2)) :: k)) cs w) b k cs e a' w'
  cases ho : ops[i]? with
  | none =>
   simp only [ho] at h
   obtain ⟨e, a', w', hq, harr⟩ := ih a h w hw b k cs hk hro
   have hs := stepR_op_skip (P := P) (b := b) (a := a) (k := k) (cs := cs) (w := w) (ops := ops) (i := i) (rest := rest ++ l2) (by simp [ho])
   simp only [ho, Option.bind_none, Act.put] at hs
   exact ⟨e, a', w', hq, .of_steps (.one (fenced_noOper hb hr ho) hs) harr⟩
  | some o =>
   simp only [ho] at h
   obtain ⟨hnd, hns, h⟩ := h
   have h0 : (lone (b.atR a (.inRegion ops (i :: (rest ++ l2)) :: k)) cs w).fenced P (FW none) := fenced_oper hb hr ho (fun _ _ => trivial)
   by_cases hx : Region.wanted o (yielded ops a.tmps) = true
   ·
    rw [if_pos hx] at h
    obtain ⟨v, h1, h2⟩ := h
    have h1 := h1 w hw
    generalize he : (execOp a.eval o).run P w = z at h1
    unfold Zd7 at h1
    split at h1
    ·
     obtain ⟨rfl, rfl⟩ := h1
     obtain ⟨e, a', w', hq, harr⟩ := ih _ h2 _ hw b k cs hk hro
     refine ⟨e, a', w', hq, .of_steps (.one h0 ?_) harr⟩
     rw [Frame.atR_of_none hro, Frame.atR_of_none hro]
     exact step_solo_go rfl (stepG_value ho hx hk he)
    ·
     obtain ⟨rfl, h1⟩ := h1
     rename_i f args w0
     obtain ⟨e, w'', fr, ⟨rfl, hw''⟩, hsteps, hfn, hleave⟩ := ((callsIn_FW (ρ := none) (n := 0)).2 h1).2 (b.atR a (.inRegion ops (i :: (rest ++ l2)) :: k) :: cs) (Zet _)
     have henter : step P (lone (b.atR a (.inRegion ops (i :: (rest ++ l2)) :: k)) cs w0) = .next (lone (Frame.enter P f args .normal) (b.atR a (.inRegion ops (i :: (rest ++ l2)) :: k) :: cs) w0) :=
      step_lone_go (by rw [stepGR_op ho hx, Oper.semAt_eq _ _ _ hnd]; simp [stepG.apply, he, Frame.atR])
     have hl : (lone fr (b.atR a (.inRegion ops (i :: (rest ++ l2)) :: k) :: cs) w'').fenced P (FW none) := fenced_leaving (n := 0) trivial (Zet _) hleave
     obtain ⟨e, a', w₃, hq, harr⟩ := ih _ h2 _ hw'' b k cs hk hro
     refine ⟨e, a', w₃, hq, .of_steps (.head h0 henter (StepsIn.trans hsteps (.one hl ?_))) harr⟩
     have hfin : (b.atR a (.inRegion ops (i :: (rest ++ l2)) :: k)).finish v = b.atR (a.put o.dst v) (.inRegion ops (rest ++ l2) :: k) := by rw [Frame.finish_atR, ho]; rfl
     rw [← hfin]; exact step_leave_returned hleave
    · exact h1.elim
   ·
    rw [if_neg hx] at h
    obtain ⟨e, a', w', hq, harr⟩ := ih _ h w hw b k cs hk hro
    have hs := stepR_op_skip (P := P) (b := b) (a := a) (k := k) (cs := cs) (w := w) (ops := ops) (i := i) (rest := rest ++ l2) (by simp [ho]; simpa using hx)
    simp only [ho, Option.bind_some] at hs
    exact ⟨e, a', w', hq, .of_steps (.one h0 hs) harr⟩
theorem TOK.pre (l1 l2 : List Nat) {l : List Nat} (hl : l1 ++ l2 = l) (h : TQ C ops (fun a => ∀ w, Inv C.w0 C.M w H → wpOK C.P ops Q l2 a w) l1 E H) : TOK C ops Q l E H := fun a w hf hi => by
 subst hl
 exact wpQ_K l2 l1 a (h a hf) w hi
theorem TQ.doneK {l2 : List Nat} (h : TOK C ops Q l2 E H) : TQ C ops (fun a => ∀ w, Inv C.w0 C.M w H → wpOK C.P ops Q l2 a w) [] E H := fun a hf w hi => h a w hf hi
theorem TOK.comm {o : Oper} {cases : Array CommCase} {blocking : Bool} {shape : CommShape} {v : Value} (ho : ops[i]? = some o) (hg : gdB ops E o.guard = true)
    (hr : ∀ a w, Fits C.n C.D E a → Inv C.w0 C.M w H → (execOp a.eval o).run C.P w = .ok (.comm cases blocking shape) w)
    (hs : ∀ (b : Frame) (cs : List Frame) (w : World) (es : Array Event), Inv C.w0 C.M w H → stepG C.P true (G b cs) w = .comm (G b cs) cases blocking shape w es → ∃ w', step C.P (solo (G b cs) w) = .next (solo (G (b.finish v) cs) w') ∧ Inv C.w0 C.M w' H')
    (kk : ∀ a w, Fits C.n C.D E a → Inv C.w0 C.M w H' → wpOK C.P ops Q l (a.put o.dst v) w) : TOK C ops Q (i :: l) E H := fun a w hf hi b k cs hk hro => by
  have hx : Region.wanted o (yielded ops a.tmps) = true := Zdc hf hg
  obtain ⟨w', h1, h2⟩ := hs _ cs w _ hi (stepG_comm (b := b) (k := k) (cs := cs) (rest := l) ho hx hk (hr a w hf hi))
  obtain ⟨e, a', w'', hq, harr⟩ := kk a w' hf h2 b k cs hk hro
  refine ⟨e, a', w'', hq, .of_steps (.one (fenced_oper trivial (Zet (cs.length + 1 + 0)) ho (fun _ _ => trivial)) ?_) harr⟩
  rw [Frame.atR_of_none hro, Frame.atR_of_none hro]
  rw [Frame.finish_at, ho] at h1
  exact h1
theorem Zl3 {w : World} {c : Nat} {q : IntKind} {x x' : Chan} {s r s' r' : Nat} (hi : Inv C.w0 C.M w H) (ht : Take (some c, chanO q x s r) H R) :
    w.heap[c]? = some (chanO q x s r) ∧ Inv C.w0 C.M (w.setChan c x'.cap (x'.buf.map (Value.int q)).toArray false s' r' false) ((some c, chanO q x' s' r') :: R) := by
  have hb := hi.own _ _ ht.mem
  have hlt : c < w.heap.size := (Array.getElem?_eq_some_iff.1 hb).1
  refine ⟨hb, Inv.upd (o' := chanO q x' s' r') hi ht rfl rfl rfl (size_setChan ..) (heap_setChan _ _ _ _ _ _ _ _ hlt) fun k hk => ?_⟩
  simp only [World.setChan]; rw [Array.getElem?_setIfInBounds_ne (Ne.symm hk)]
theorem TOK.send {x y : Operand} {c : Nat} {q : IntKind} {u : Chan} {s r : Nat} {v : Int} (hroom : u.buf.length < u.cap) (ho : ops[i]? = some ⟨none, .send x y, ty, pos, af, g⟩) (hg : gdB ops E g = true)
    (hx : ev E x = some (.chan (some c))) (hy : ev E y = some (.int q v)) (ht : Take (some c, chanO q u s r) H R)
    (kk : TOK C ops Q l E ((some c, chanO q (u.put v) (s + 1) r) :: R)) : TOK C ops Q (i :: l) E H :=
  TOK.comm (cases := #[scase c (.int q v) (.tuple #[])]) (blocking := true) (shape := .send) (v := undef) (H' := (some c, chanO q (u.put v) (s + 1) r) :: R) ho hg
    (fun a w hf _ => by simp [execOp, hf.ev hx, hf.ev hy, scase])
    (fun b cs w es hi h => by
      obtain ⟨h1, h2⟩ := Zl3 (x' := u.put v) (s' := s + 1) (r' := r) hi ht
      refine ⟨_, ?_, h2⟩
      rw [step_lone_send_room h h1 (by simpa using hroom)]
      simp [Chan.put])
    (fun a w hf hi => kk a w hf hi)
theorem TOK.selD {x : Operand} {et : TypeId} {c : Nat} {q : IntKind} {u : Chan} {s r : Nat} {z : Value} (hbuf : u.buf = []) (ho : ops[i]? = some ⟨some d, .select #[⟨x, none, et⟩] false, ty, pos, af, g⟩) (hg : gdB ops E g = true) (hd : Nat.ble (d + 1) C.n = true)
    (hx : ev E x = some (.chan (some c))) (hz : Z2l C.P et = some z) (hm : (some c, chanO q u s r) ∈ H)
    (kk : TOK C ops Q l ((d, .tuple #[.int .i64 (-1), .bool false, z]) :: E) H) : TOK C ops Q (i :: l) E H :=
  TOK.comm (cases := #[rcase c z]) (blocking := false) (shape := .select) (v := .tuple #[goInt (-1), .bool false, z]) (H' := H) ho hg
    (fun a w hf _ => by simp [execOp, hf.ev hx, rcase, Zax hz])
    (fun b cs w es hi h => ⟨w, step_lone_select_default (cap := u.cap) (s := s) (r := r) (tm := false) h (by have h1 := hi.own _ _ hm; simp only [chanO, hbuf] at h1; exact h1), hi⟩)
    (fun a w hf hi => kk _ w (hf.put hd _) hi)
theorem res_r0 (c : Nat) (z v : Value) (ok : Bool) : commResult #[rcase c z] .select ((0 : Nat) : Int) v ok = .tuple #[goInt 0, .bool ok, v] := by
 simp [commResult, rcase, List.zipIdx_cons]
theorem TOK.selR {x : Operand} {et : TypeId} {c : Nat} {q : IntKind} {u : Chan} {s r : Nat} {z : Value} (hbuf : u.buf ≠ []) (ho : ops[i]? = some ⟨some d, .select #[⟨x, none, et⟩] false, ty, pos, af, g⟩) (hg : gdB ops E g = true) (hd : Nat.ble (d + 1) C.n = true)
    (hx : ev E x = some (.chan (some c))) (hz : Z2l C.P et = some z) (ht : Take (some c, chanO q u s r) H R)
    (kk : TOK C ops Q l ((d, .tuple #[.int .i64 0, .bool true, .int q (u.buf.getD 0 0)]) :: E) ((some c, chanO q u.cut s (r + 1)) :: R)) : TOK C ops Q (i :: l) E H := by
  obtain ⟨cap, buf⟩ := u
  cases buf with
  | nil => exact absurd rfl hbuf
  | cons v0 l0 =>
    refine TOK.comm (cases := #[rcase c z]) (blocking := false) (shape := .select) (v := .tuple #[goInt 0, .bool true, .int q v0]) (H' := (some c, chanO q (Chan.cut ⟨cap, v0 :: l0⟩) s (r + 1)) :: R) ho hg
      (fun a w hf _ => by simp [execOp, hf.ev hx, rcase, Zax hz]) (fun b cs w es hi h => ?_) (fun a w hf hi => kk _ w (hf.put hd _) hi)
    obtain ⟨h1, h2⟩ := Zl3 (x' := Chan.cut ⟨cap, v0 :: l0⟩) (s' := s) (r' := r + 1) hi ht
    refine ⟨_, ?_, h2⟩
    rw [step_lone_sel_recv_buf (k := 0) (c := c) (z := z) h rfl (fun m c' hm hc => ?_) h1 (by simp), res_r0]
    · simp [Chan.cut, List.take_of_length_le]
    · rcases m with _ | m
      · exact absurd rfl hm
      · simp at hc
def chanT (P : Program) (t : TypeId) : Option TypeId :=
  match P.underlying t with
  | some (.chan _ e) => some e
  | _ => none
theorem Zm1 {P : Program} {t e : TypeId} (h : chanT P t = some e) : ∃ d, P.underlying t = some (.chan d e) := by
 unfold chanT at h
 split at h
 ·
  rename_i d e' he
  injection h with h; subst h
  exact ⟨d, he⟩
 · cases h
theorem Zpw {t e : TypeId} {x : Operand} {n : Int} {b q : Nat} {kq : IntKind} (h : chok n b) (ho : ops[i]? = some ⟨some d, .makeChan t x, ty, pos, af, g⟩) (hg : gdB ops E g = true) (hd : Nat.ble (d + 1) C.n = true)
    (hx : ev E x = some (.int .i64 n)) (hc : chanT C.P t = some e) (hb : Z55 C.P e = some b) (k : ∀ c, TO C ops Q l ((d, .chan (some c)) :: E) ((some c, chanO kq ⟨n.toNat, []⟩ 0 0) :: H)) : TO C ops Q (i :: l) E H := by
  obtain ⟨dir, h1⟩ := Zm1 hc
  obtain ⟨i0, h2, h3⟩ := Option.map_eq_some_iff.1 hb
  obtain ⟨m, rfl⟩ : ∃ m : Nat, n = m := ⟨n.toNat, by omega⟩
  exact Zga (fun c => .chan (some c)) ho hg hd (by simp) (fun a w hf _ => by
    have := run_makeChan (P := C.P) (w := w) h1 h2 .i64 m (by omega) (by rw [h3]; omega)
    simp only [execOp, hf.ev hx]
    simp [this]
    rfl) k
theorem Zd4 {t T' : TypeId} {x : Operand} {b o k : Nat} {cs vs : List Value} {fr : Nat × Nat} (ho : ops[i]? = some ⟨some d, .load t x, ty, pos, af, g⟩) (hg : gdB ops E g = true) (hd : Nat.ble (d + 1) C.n = true)
    (hx : ev E x = some (.pointer (some ⟨b, o, none⟩))) (hT : Zaf C.P t k = true) (hm : (some b, Obj.cells cs.toArray T' fr) ∈ H) (hv : (cs.drop o).take k = vs) (hk : vs.length = k)
    (kk : TO C ops Q l ((d, .agg vs.toArray) :: E) H) : TO C ops Q (i :: l) E H :=
  Zeg ho hg hd hx hT hk (fun w hi j v hj => by
    rw [Addr.add_mid, hi.cell_own hm]
    subst hv
    rw [List.getElem?_take] at hj
    split at hj
    · rw [List.getElem?_drop] at hj; simpa using hj
    · cases hj) kk
theorem X.obQn {S : List Sp} {W Es B B' : Env} {Hc Hx : Heap} {e' De : Heap} {vl : List Value} {H' : Heap} (hs : Z3g ops i = none) (hr : Zlx S i vl undef e') (hH : Pick (e' ++ (Hc ++ (De ++ Hx))) H') (hB : B = B') :
    X C (fun e a w => match e with
      | .normal => ∃ v e', Zlx S i vl v e' ∧ Fits C.n C.D (putG (Z3g ops i) v (B ++ (W ++ Es))) a ∧ Inv C.w0 C.M w (e' ++ (Hc ++ (De ++ Hx)))
      | e => Q e a w) .normal (B' ++ (W ++ Es)) H' := by
  subst hB
  exact fun _ _ hf hi => ⟨undef, e', hr, by rw [hs]; exact hf, hi.pick hH⟩
theorem Zhb {P : Program} {f : FuncId} {fn : Func} {c : Code} {vs : List Value} {w : World} {M : List Nat} {H : Heap} {Post : Value → Heap → Prop}
    (hf : P.funcs[f]? = some fn) (hb : fn.body = some c) (hn : Nat.ble vs.length fn.ntmps = true) (hi : Inv w M w H)
    (h : TK ⟨P, none, fn.ntmps, [], w, M⟩ c (bodyPost P fn (Zq6 w M Post)) (Zf2 0 vs) H) : Fnc P f vs.toArray w M Post := by
  have hn' := Nat.le_of_ble_eq_true hn
  refine callsIn_FW (ρ := none) (n := 0) |>.1 ⟨trivial, fun cs hr => ?_⟩
  let b : Frame := { (default : Frame) with fn := f, kind := .normal, roundOf := none }
  have henter : Frame.enter P f vs.toArray .normal = b.atR { tmps := vs.toArray ++ Array.replicate (fn.ntmps - vs.toArray.size) undef, defers := [] } [.code c] := by
    simp [Frame.enter, Frame.atR, hf, hb, b]
  obtain ⟨e, a', w', hq, harr⟩ := h { tmps := vs.toArray ++ Array.replicate (fn.ntmps - vs.toArray.size) undef, defers := [] } w ⟨by simp; omega, rfl, fun t v hv => by
    obtain ⟨_, h2⟩ := Zad vs 0 t v hv
    rw [Nat.sub_zero] at h2
    have hlt := (List.getElem?_eq_some_iff.1 h2).1
    simp only [Array.getD_eq_getD_getElem?]
    rw [Array.getElem?_append_left (by simpa using hlt)]
    simp [h2]⟩ hi b [] cs (by simp [b]) rfl
  rw [← henter] at harr
  cases e with
  | normal =>
    obtain ⟨hd, v, hr', hR⟩ := hq
    exact ⟨.returned v, w', _, hR, StepsIn.trans harr (.one (fenced_calm (fr := b.atR a' []) trivial hr rfl) (stepR_end rfl)), rfl, rfl, hd, rfl, fn, hf, hr'⟩
  | ret =>
    obtain ⟨hd, v, hr', hR⟩ := hq
    obtain ⟨todo, hs⟩ := harr.1 rfl
    exact ⟨.returned v, w', _, hR, hs, rfl, rfl, hd, rfl, fn, hf, hr'⟩
  | panic chain =>
    obtain ⟨hd, hR⟩ := hq
    obtain ⟨todo, hs⟩ := harr
    exact ⟨.panicked chain, w', _, hR, hs, rfl, rfl, hd, fn, hf⟩
  | exit id => exact hq.elim
  | goto l => exact hq.elim
  | outgrown => exact ⟨.outgrown, w', b, hq, harr.resolve_left (by simp [b]), rfl, trivial⟩
end
end Go.Acq
namespace Go.Acq
open Go Go.RowKit
def eqFs (P : Program) : List Field → List IntKind → Nat → Bool
  | [], [], _ => true
  | f :: fs, k :: ks, o => f.name != "_" && Nat.beq f.offset o && (match P.underlying f.type with | some (.int q) => decide (q = k) | _ => false) && eqFs P fs ks (o + 1)
  | _, _, _ => false
def eqsT (P : Program) (t : TypeId) (ks : List IntKind) : Bool :=
  (match P.underlying t with | some (.struct fs) => eqFs P fs.toList ks 0 | _ => false) && !P.stoodInHeld t && !P.eqGuardType P.depth t
theorem Zky {P : Program} {w : World} {n : Nat} {xs ys : Array Value} : ∀ (fs : List Field) (ks : List IntKind) (o : Nat) (us ws : List Int), eqFs P fs ks o = true → us.length = ks.length → ws.length = ks.length →
    (∀ i, i < ks.length → xs[o + i]? = some (.int (ks.getD i .i64) (us.getD i 0)) ∧ ys[o + i]? = some (.int (ks.getD i .i64) (ws.getD i 0))) → (Op.eqFields (n + 1) xs ys fs).run P w = .ok (decide (us = ws)) w
  | [], [], _, [], [], _, _, _, _ => by simp [Op.eqFields]
  | f :: fs, k :: ks, o, a :: us, b :: ws, h, ha, hb, hx => by
    simp only [eqFs, Bool.and_eq_true, bne_iff_ne, ne_eq] at h
    obtain ⟨⟨⟨h1, h2⟩, h3⟩, h4⟩ := h
    have h2 : f.offset = o := Nat.eq_of_beq_eq_true h2
    split at h3
    · rename_i q hq
      have h3 : q = k := of_decide_eq_true h3
      subst h3
      have h0 := hx 0 (by simp)
      simp only [Nat.add_zero, List.getD_cons_zero] at h0
      have ih := Zky (w := w) (n := n) fs ks (o + 1) us ws h4 (by simpa using ha) (by simpa using hb) (fun i hi => by
        have := hx (i + 1) (by simpa using hi)
        simp only [List.getD_cons_succ] at this
        rwa [show o + 1 + i = o + (i + 1) by omega])
      have hagg : ∀ w, (isAgg f.type).run P w = .ok false w := fun w => by simp [isAgg, run_underlying hq]
      have hp : ∀ (cs : Array Value) v, cs[f.offset]? = some v → ∀ w, (part f.type cs f.offset).run P w = .ok v w := fun cs v hv w => by
        simp [part, hagg, hv]
      rw [← h2] at h0
      simp only [Op.eqFields, h1, not_false_eq_true, ne_eq, if_true]
      simp only [Sem.run_bind, hp _ _ h0.1, hp _ _ h0.2, Result.andThen_ok, run_equalIn_int w n f.type q q a b hq]
      by_cases hab : a = b
      · subst hab
        simp [ih]
      · simp [hab]
    · cases h3
section rules
variable {C : Cx} {ops : Array Oper} {Q : Exit → Act → World → Prop} {l : List Nat} {E : Env} {H R : Heap} {i d : Nat} {ty : TypeId} {pos : String} {af : Array Edge} {g : Option (Nat × Bool)}
theorem eqsT_run {P : Program} {t : TypeId} {ks : List IntKind} {us ws : List Int} (h : eqsT P t ks = true) (ha : us.length = ks.length) (hb : ws.length = ks.length) (w : World) :
    (Op.equal t (.agg ((ks.zip us).map fun p => Value.int p.1 p.2).toArray) (.agg ((ks.zip ws).map fun p => Value.int p.1 p.2).toArray)).run P w = .ok (decide (us = ws)) w := by
  simp only [eqsT, Bool.and_eq_true, Bool.not_eq_true'] at h
  obtain ⟨⟨h1, h2⟩, h3⟩ := h
  split at h1
  · rename_i fs hfs
    have hf : P.fieldsOf t = fs := by simp [Program.fieldsOf, hfs]
    have key : ∀ (cs : List Int), cs.length = ks.length → ∀ i, i < ks.length → (((ks.zip cs).map fun p => Value.int p.1 p.2).toArray)[0 + i]? = some (.int (ks.getD i .i64) (cs.getD i 0)) := fun cs hc i hi => by
      have e1 : ks[i]? = some (ks.getD i .i64) := by simp [List.getD_eq_getElem?_getD, hi]
      have e2 : cs[i]? = some (cs.getD i 0) := by simp [List.getD_eq_getElem?_getD, hc, hi]
      rw [Nat.zero_add, List.getElem?_toArray, List.getElem?_map, List.zip, List.getElem?_zipWith, e1, e2]
      rfl
    show (Op.equalIn (9999 + 1) t _ _).run P w = _
    rw [run_equalIn_agg w 9999 t _ _ (by rw [hf]; exact hfs) h2, hf]
    exact Zky (n := 9998) fs.toList ks 0 us ws h1 ha hb fun i hi => ⟨key us ha i hi, key ws hb i hi⟩
  · cases h1
theorem TO.eqS {t t2 : TypeId} {x y : Operand} {us ws : List Int} {va vb : Array Value} (ks : List IntKind) (ht : eqsT C.P t ks = true) (ha : us.length = ks.length) (hb : ws.length = ks.length)
    (hva : ((ks.zip us).map fun p => Value.int p.1 p.2).toArray = va) (hvb : ((ks.zip ws).map fun p => Value.int p.1 p.2).toArray = vb) (ho : ops[i]? = some ⟨some d, .binOp .eql t x y t2, ty, pos, af, g⟩) (hg : gdB ops E g = true) (hd : Nat.ble (d + 1) C.n = true)
    (hx : ev E x = some (.agg va)) (hy : ev E y = some (.agg vb)) (kk : TO C ops Q l ((d, .bool (decide (us = ws))) :: E) H) : TO C ops Q (i :: l) E H :=
  TO.val ho hg hd (by simp) (fun a w hf _ => by
    subst hva; subst hvb
    have h3 : C.P.eqGuardType C.P.depth t = false := by simp only [eqsT, Bool.and_eq_true, Bool.not_eq_true'] at ht; exact ht.2
    have := Zcs (eqsT_run ht ha hb w) rfl
    simp only [execOp, hf.ev hx, hf.ev hy]
    simp [run_eqGuard_agg w _ _ _ _ _ _ h3, this]) kk
end rules
end Go.Acq
namespace Go.Acq
open Go Go.RowKit
section
variable {α : Type} {w0 w : World} {M M' : List Nat} {f : α → List Value} {s n c : Nat} {base : Option Addr} {xs ys : List α} {ob : Option Nat} {j : List Value} {H Hm R : Heap} {T' : TypeId} {fr : Nat × Nat}
def Seen (w0 : World) (M : List Nat) (f : α → List Value) (s : Nat) (base : Option Addr) (n c : Nat) (xs ys : List α) (ob : Option Nat) : Prop :=
  (base = sb ob ∧ ys = xs ∧ xs.length = n ∧ n ≤ c ∧ (ob = none → c = 0)) ∨ RS w0 M f s base n c xs
theorem Seen.own (hn : xs.length = n) (hc : n ≤ c) (hz : ob = none → c = 0) : Seen w0 M f s (sb ob) n c xs xs ob := .inl ⟨rfl, rfl, hn, hc, hz⟩
theorem Seen.ro (h : RS w0 M f s base n c xs) : Seen w0 M f s base n c xs [] none := .inr h
theorem Seen.len (h : Seen w0 M f s base n c xs ys ob) : xs.length = n := h.elim (fun h => h.2.2.1) (fun h => h.len)
theorem Seen.cap (h : Seen w0 M f s base n c xs ys ob) : n ≤ c := h.elim (fun h => h.2.2.2.1) (fun h => h.cap)
theorem Seen.nil (h : Seen w0 M f s base n c xs ys ob) (hb : base = none) : n = 0 := by
 rcases h with ⟨h1, h2, h3, h4, h5⟩ | h
 ·
  cases ob with
  | none => have := h5 rfl; omega
  | some b => rw [h1] at hb; cases hb
 · exact h.ro.nil hb
theorem Seen.rs (h : Seen w0 M f s base n c xs ys ob) (hf : ∀ x, (f x).length = s) (hi : Inv w0 M w H) (hm : (ob, Obj.cells (arr f ys j).toArray T' fr) ∈ H) : RS w [] f s base n c xs := by
 rcases h with ⟨rfl, rfl, h3, h4, h5⟩ | h
 · exact hi.rs hf hm h3 h4 h5
 · exact h.mono hi
theorem Seen.rsM (h : Seen w0 M f s base n c xs ys ob) (hf : ∀ x, (f x).length = s) (hs : 0 < s) (hi : Inv w0 M w H) (hp : List.Perm H (Hm ++ R)) (hM : Hm.filterMap (·.1) = M') (hm : (ob, Obj.cells (arr f ys j).toArray T' fr) ∈ R) : RS w M' f s base n c xs := by
 rcases h with ⟨rfl, rfl, h3, h4, h5⟩ | h
 · exact hi.rsM hf hp hM hm h3 h4 h5
 · exact h.monoM hs hi hp hM
end
section rules
variable {C : Cx} {ops : Array Oper} {Q : Exit → Act → World → Prop} {l : List Nat} {E : Env} {H R : Heap} {i d : Nat} {ty : TypeId} {pos : String} {af : Array Edge} {g : Option (Nat × Bool)}
end rules
end Go.Acq
namespace Go.Acq
open Go Go.RowKit
set_option linter.unusedSimpArgs false
abbrev pairC (q : IntKind) (k : Int × Int) : Value := .agg #[.int q k.1, .int q k.2]
def Zgj {α : Type} (q : IntKind) (f : α → Value) : Nat → List ((Int × Int) × α) → List MapEntry
  | _, [] => []
  | i, x :: xs => { key := pairC q x.1, val := f x.2, born := i } :: Zgj q f (i + 1) xs
abbrev mapPO {α : Type} (q : IntKind) (f : α → Value) (xs : List ((Int × Int) × α)) : Obj := .map (Zgj q f 0 xs).toArray xs.length
def Zcq {α : Type} (f : α → Value) (k : Int × Int) : Nat → List ((Int × Int) × α) → Option (Nat × Value)
  | _, [] => none
  | i, x :: xs => if k = x.1 then some (i, f x.2) else Zcq f k (i + 1) xs
section
variable {α : Type} {q : IntKind} {f : α → Value} {k : Int × Int} {z v : α}
theorem Ziz : ∀ (xs : List ((Int × Int) × α)) (j : Nat), (match Zcq f k j xs with | some (_, u) => (u, true) | none => (f z, false)) = (f (Zb3 z k xs), Zo4 k xs)
 | [], _ => rfl
 | x :: xs, j => by
  unfold Zcq Zb3 Zo4
  by_cases h : k = x.1
  · rw [if_pos h, if_pos h, if_pos h]
  · rw [if_neg h, if_neg h, if_neg h]; exact Ziz xs (j + 1)
theorem Ziy : ∀ (xs : List ((Int × Int) × α)) (i j : Nat), (match Zcq f k j xs with
    | some (p, _) => (∃ o, (j ≤ p ∧ (Zgj q f i xs)[p - j]? = some o ∧ o.key = pairC q k)) ∧ (Zhv k v xs).length = xs.length ∧ Zgj q f i (Zhv k v xs) = (Zgj q f i xs).modify (p - j) (fun e => { e with key := pairC q k, val := f v })
    | none => (Zhv k v xs).length = xs.length + 1 ∧ Zgj q f i (Zhv k v xs) = Zgj q f i xs ++ [{ key := pairC q k, val := f v, born := i + xs.length }])
  | [], i, j => by simp [Zcq, Zhv, Zgj]
  | x :: xs, i, j => by
    unfold Zcq Zhv
    by_cases h : k = x.1
    · subst h
      simp [Zgj]
    · simp only [if_neg h]
      have ih := Ziy xs (i + 1) (j + 1)
      cases hf : Zcq f k (j + 1) xs with
      | none =>
        rw [hf] at ih
        simp only [Zgj, List.length_cons, List.cons_append] at ih ⊢
        refine ⟨by omega, ?_⟩
        rw [ih.2]
        simp; omega
      | some y =>
        rw [hf] at ih
        obtain ⟨p, u⟩ := y
        simp only at ih ⊢
        obtain ⟨⟨o, h1, h2, h3⟩, h4, h5⟩ := ih
        have e : p - j = (p - (j + 1)) + 1 := by omega
        refine ⟨⟨o, by omega, ?_, h3⟩, by simp [h4], ?_⟩
        · rw [e]; simpa [Zgj] using h2
        · rw [e]; simp only [Zgj, List.modify_succ_cons, h5]
end
def Zo0 (P : Program) (t : TypeId) : Option (IntKind × TypeId) :=
  match P.underlying t with
  | some (.map k e) => match P.underlying k with
    | some (.array 2 i) => match P.underlying i with
      | some (.int q) => if P.cellsOf i = 1 then some (q, e) else none
      | _ => none
    | _ => none
  | _ => none
theorem Zgr {P : Program} {t e : TypeId} {q : IntKind} (h : Zo0 P t = some (q, e)) : ∃ k i, P.underlying t = some (.map k e) ∧ P.underlying k = some (.array 2 i) ∧ P.underlying i = some (.int q) ∧ P.cellsOf i = 1 := by
 unfold Zo0 at h
 split at h
 ·
  rename_i k e' h1
  split at h
  ·
   rename_i i h2
   split at h
   ·
    rename_i q' h3
    split at h
    ·
     rename_i h4
     injection h with h; injection h with h5 h6
     subst h5; subst h6
     exact ⟨k, i, h1, h2, h3, h4⟩
    · cases h
   · cases h
  · cases h
 · cases h
theorem Zl1 : List.range' 0 2 1 = [0, 1] := rfl
section
variable {P : Program} {w : World} {kt i : TypeId} {q : IntKind}
theorem Zeq (h : P.underlying i = some (.int q)) (hc : P.cellsOf i = 1) : (sizeOf i).run P w = .ok 1 w := by
 obtain ⟨x, hx⟩ := info_of_underlying h
 rw [run_sizeOf w hx, hc]
theorem Zci (h : P.underlying i = some (.int q)) {xs : Array Value} {o : Nat} {v : Value} (hx : xs[o]? = some v) : (part i xs o).run P w = .ok v w :=
 run_part_plain w (by simp [Program.plainKey, h]) hx
theorem Zbu {em : Bool} {k : Int × Int} (h1 : P.underlying kt = some (.array 2 i)) (h2 : P.underlying i = some (.int q)) (hc : P.cellsOf i = 1) : (Instr.checkKey em 10000 kt (pairC q k)).run P w = .ok () w := by
 show (Instr.checkKey em (9998 + 1 + 1) kt (.agg #[.int q k.1, .int q k.2])).run P w = .ok () w
 have a : ∀ (x : Int) w, (Instr.checkKey em (9998 + 1) i (.int q x)).run P w = .ok () w := fun x w => by
  rw [Instr.checkKey]; simp [underlying, h2]
 have p0 : ∀ w, (part i #[.int q k.1, .int q k.2] 0).run P w = .ok (.int q k.1) w := fun w => Zci h2 rfl
 have p1 : ∀ w, (part i #[.int q k.1, .int q k.2] 1).run P w = .ok (.int q k.2) w := fun w => Zci h2 rfl
 have s1 : ∀ w, (sizeOf i).run P w = .ok 1 w := fun w => Zeq h2 hc
 rw [Instr.checkKey]
 simp [underlying, h1, Std.Legacy.Range.forIn_eq_forIn_range', Std.Legacy.Range.size, Zl1, s1, p0, p1, a]
theorem Zk2 {k k' : Int × Int} (h1 : P.underlying kt = some (.array 2 i)) (h2 : P.underlying i = some (.int q)) (hc : P.cellsOf i = 1) : (Op.equal kt (pairC q k) (pairC q k')).run P w = .ok (decide (k = k')) w := by
 show (Op.equalIn (9998 + 1 + 1) kt (.agg #[.int q k.1, .int q k.2]) (.agg #[.int q k'.1, .int q k'.2])).run P w = _
 have a : ∀ (x y : Int) w, (Op.equalIn 9999 i (.int q x) (.int q y)).run P w = .ok (x == y) w := fun x y w => run_equalIn_int w 9998 i q q x y h2
 have p0 : ∀ (x y : Int) w, (part i #[.int q x, .int q y] 0).run P w = .ok (.int q x) w := fun x y w => Zci h2 rfl
 have p1 : ∀ (x y : Int) w, (part i #[.int q x, .int q y] 1).run P w = .ok (.int q y) w := fun x y w => Zci h2 rfl
 have s1 : ∀ w, (sizeOf i).run P w = .ok 1 w := fun w => Zeq h2 hc
 rw [Op.equalIn]
 obtain ⟨k1, k2⟩ := k
 obtain ⟨l1, l2⟩ := k'
 by_cases e1 : k1 = l1
 ·
  by_cases e2 : k2 = l2
  · simp [underlying, h1, Std.Legacy.Range.forIn_eq_forIn_range', Std.Legacy.Range.size, Zl1, s1, p0, p1, a, e1, e2]
  · simp [underlying, h1, Std.Legacy.Range.forIn_eq_forIn_range', Std.Legacy.Range.size, Zl1, s1, p0, p1, a, e1, e2]
 · simp [underlying, h1, Std.Legacy.Range.forIn_eq_forIn_range', Std.Legacy.Range.size, Zl1, s1, p0, p1, a, e1]
theorem Zaq {α : Type} {f : α → Value} {k : Int × Int} (h1 : P.underlying kt = some (.array 2 i)) (h2 : P.underlying i = some (.int q)) (hc : P.cellsOf i = 1) : ∀ (xs : List ((Int × Int) × α)) (b j : Nat),
    (Instr.findAsking kt (pairC q k) (Zgj q f b xs) j).run P w = .ok (Zcq f k j xs) w
  | [], _, _ => by simp [Zgj, Instr.findAsking, Zcq]
  | x :: xs, b, j => by
    simp only [Zgj, Instr.findAsking, Sem.run_bind, Zk2 h1 h2 hc, Result.andThen_ok, Zcq]
    by_cases h : k = x.1
    · simp [h]
    · simp only [h, decide_false, Bool.false_eq_true, if_false]
      exact Zaq h1 h2 hc xs (b + 1) (j + 1)
theorem Zcj {α : Type} {f : α → Value} {k : Int × Int} {xs : List ((Int × Int) × α)} (h1 : P.underlying kt = some (.array 2 i)) (h2 : P.underlying i = some (.int q)) (hc : P.cellsOf i = 1) : (Instr.findKey kt (pairC q k) (Zgj q f 0 xs)).run P w = .ok (Zcq f k 0 xs) w := by
 have h3 := Zaq (w := w) (f := f) (k := k) h1 h2 hc xs 0 0
 cases xs with
 | nil => simp [Instr.findKey, underlying, h1, Instr.findNow, Zgj, Zcq]
 | cons x xs =>
  have : Instr.findNow (.array 2 i) (pairC q k) (Zgj q f 0 (x :: xs)) 0 = none := by simp [Zgj, Instr.findNow, Instr.sameNow]
  simp only [Instr.findKey, Sem.run_bind, run_underlying h1, Result.andThen_ok, this]
  exact h3
end
section rules
variable {C : Cx} {ops : Array Oper} {Q : Exit → Act → World → Prop} {l : List Nat} {E : Env} {H R : Heap} {i d : Nat} {ty : TypeId} {pos : String} {af : Array Edge} {g : Option (Nat × Bool)}
variable {α : Type} {q : IntKind} {f : α → Value}
theorem Zpv {t : TypeId} (f : α → Value) (q : IntKind) (ho : ops[i]? = some ⟨some d, .makeMap t none, ty, pos, af, g⟩) (hg : gdB ops E g = true) (hd : Nat.ble (d + 1) C.n = true)
    (k : ∀ b, TO C ops Q l ((d, .map (some b)) :: E) ((some b, mapPO q f []) :: H)) : TO C ops Q (i :: l) E H :=
  Zga (fun b => .map (some b)) ho hg hd (by simp) (fun a w hf _ => by simp [execOp, Instr.makeMap]; rfl) k
theorem TO.mgetP {t e : TypeId} {x y : Operand} {b : Nat} {xs : List ((Int × Int) × α)} {k : Int × Int} {z : α} {u : Value} (hm : Zo0 C.P t = some (q, e)) (hz : Z2l C.P e = some (f z))
    (ho : ops[i]? = some ⟨some d, .lookup t x y true, ty, pos, af, g⟩) (hg : gdB ops E g = true) (hd : Nat.ble (d + 1) C.n = true)
    (hx : ev E x = some (.map (some b))) (hy : ev E y = some (pairC q k)) (hh : (some b, mapPO q f xs) ∈ H) (hu : f (Zb3 z k xs) = u)
    (kk : TO C ops Q l ((d, .tuple #[u, .bool (Zo4 k xs)]) :: E) H) : TO C ops Q (i :: l) E H :=
  TO.val ho hg hd (by simp) (fun a w hf hi => by
    obtain ⟨kt, i', h1, h2, h3, h4⟩ := Zgr hm
    subst hu
    have hget := Ziz (f := f) (k := k) (z := z) xs 0
    have hb := hi.own _ _ hh
    have hfind := Zcj (P := C.P) (w := w) (f := f) (k := k) (xs := xs) h2 h3 h4
    have hck := fun em => Zbu (P := C.P) (w := w) (em := em) (k := k) h2 h3 h4
    simp only [execOp, hf.ev hx, hf.ev hy]
    cases hc : Zcq f k 0 xs with
    | none =>
      rw [hc] at hfind hget
      simp only [Prod.mk.injEq] at hget
      simp [Instr.lookup, hck, hfind, underlying, h1, Zax hz, Z82 hb, ← hget.1, ← hget.2]
    | some y =>
      obtain ⟨p, v⟩ := y
      rw [hc] at hfind hget
      simp only [Prod.mk.injEq] at hget
      simp [Instr.lookup, hck, hfind, underlying, h1, Zax hz, Z82 hb, ← hget.1, ← hget.2]) kk
theorem Zhs (q : IntKind) (k : Int × Int) : Instr.sameBits 10000 (pairC q k) (pairC q k) = true := by
 show Instr.sameBits (9998 + 1 + 1) (.agg #[.int q k.1, .int q k.2]) (.agg #[.int q k.1, .int q k.2]) = true
 simp [Instr.sameBits]
theorem TO.mputP {t e : TypeId} {x y v : Operand} {b : Nat} {xs : List ((Int × Int) × α)} {k : Int × Int} {u : α} {fu : Value} (hm : Zo0 C.P t = some (q, e)) (hu : f u = fu)
    (ho : ops[i]? = some ⟨none, .mapUpdate t x y v, ty, pos, af, g⟩) (hg : gdB ops E g = true)
    (hx : ev E x = some (.map (some b))) (hy : ev E y = some (pairC q k)) (hv : ev E v = some fu) (ht : Take (some b, mapPO q f xs) H R)
    (kk : TO C ops Q l E ((some b, mapPO q f (Zhv k u xs)) :: R)) : TO C ops Q (i :: l) E H :=
  Zgc ho hg (by simp) fun a w hf hi => by
    obtain ⟨kt, i', h1, h2, h3, h4⟩ := Zgr hm
    subst hu
    have hb := hi.own _ _ ht.mem
    have hfind := Zcj (P := C.P) (w := w) (f := f) (k := k) (xs := xs) h2 h3 h4
    have hck := fun em => Zbu (P := C.P) (w := w) (em := em) (k := k) h2 h3 h4
    have hput := Ziy (q := q) (f := f) (k := k) (v := u) xs 0 0
    have hrun : (execOp a.eval ⟨none, .mapUpdate t x y v, ty, pos, af, g⟩).run C.P w = .ok .skip (Go.ChangeMaps.setBlock w b (mapPO q f (Zhv k u xs))) := by
      simp only [execOp, hf.ev hx, hf.ev hy, hf.ev hv]
      cases hc : Zcq f k 0 xs with
      | none =>
        rw [hc] at hfind hput
        simp only at hput
        simp [Instr.mapUpdate, hck, hfind, underlying, h1, Z82 hb, Zch hb]
        rw [show mapPO q f (Zhv k u xs) = .map (Zgj q f 0 xs ++ [({ key := pairC q k, val := f u, born := xs.length } : MapEntry)]).toArray (xs.length + 1) by unfold mapPO; rw [hput.1, hput.2, Nat.zero_add]]
      | some y =>
        obtain ⟨p, v'⟩ := y
        rw [hc] at hfind hput
        simp only [Nat.sub_zero] at hput
        obtain ⟨⟨o, h5, h6, h7⟩, h8, h9⟩ := hput
        simp [Instr.mapUpdate, hck, hfind, underlying, h1, Z82 hb, Zch hb, h6, h7, Instr.keyThatStays, Zhs]
        rw [show mapPO q f (Zhv k u xs) = .map ((Zgj q f 0 xs).modify p fun e => { e with key := pairC q k, val := f u }).toArray xs.length by unfold mapPO; rw [h8, h9]]
    rw [hrun]
    have hsz : b < w.heap.size := (Array.getElem?_eq_some_iff.1 hb).1
    refine kk _ _ (hf.putNone _) (hi.upd ht rfl rfl rfl (by simp [Go.ChangeMaps.setBlock]) (by simp [Go.ChangeMaps.setBlock, hsz]) fun k' hk => ?_)
    simp only [Go.ChangeMaps.setBlock]
    rw [Array.getElem?_setIfInBounds_ne (fun e => hk e.symm)]
end rules
end Go.Acq
