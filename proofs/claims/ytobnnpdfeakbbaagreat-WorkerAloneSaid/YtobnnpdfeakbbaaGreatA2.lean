/- Texts of this claim, one behind the other. -/
import Derived.Test.YtobnnpdfeakbbaaGreatA1
import Derived.Laws.Bits64b
import Derived.Deep.Slices
import Derived.Deep.Fields
import Derived.ChangeSame
import Derived.Lib.SmallJoins
import Derived.ProofKit
import Derived.ChangeArms
import Derived.RangeFuncSeq
import Derived.Conc.LoneCalls
import Derived.Conc.LoneSelectN
import Derived.Conc.SmallLaws
import Derived.Laws.StructEq
import Derived.Scope
import Derived.ChangeKeysEq
import Derived.Shelf.Spec.SlicesInsertGrow
import Derived.Laws.LoneSync
set_option linter.unusedVariables false
set_option linter.unusedSimpArgs false
namespace Go.Acq
open Go
structure Layout where
  Verts : Int
  Arcs : Int
  Workers : Int
  Room : Int
  Res : Int
  Ex : Int
  H : Int
  Flag : Int
  Pending : Int
  Ask : Int
  Count : Int
  Sense : Int
  Deques : Int
  Size : Int
  deriving DecidableEq
instance : Inhabited Layout := ⟨⟨default, default, default, default, default, default, default, default, default, default, default, default, default, default⟩⟩
structure Evt where
  Who : Int
  What : Int
  U : Int
  Arc : Int
  D : Int
  H : Int
  Low : Int
  deriving DecidableEq
instance : Inhabited Evt := ⟨⟨default, default, default, default, default, default, default⟩⟩
def Nu (x : Evt) : List Value := [.int .i64 x.Who, .int .u8 x.What, .int .i64 x.U, .int .i64 x.Arc, .int .i64 x.D, .int .i64 x.H, .int .i64 x.Low]
structure DequePart where
  l : Layout
  w : Int
  at_ : Int
  t : Int
  b : Int
  x : Int
  done : Bool
  got : Bool
  deriving DecidableEq
instance : Inhabited DequePart := ⟨⟨default, default, default, default, default, default, default, default⟩⟩
structure DequePop where
  part : DequePart
  deriving DecidableEq
instance : Inhabited DequePop := ⟨⟨default⟩⟩
structure DequeSteal where
  part : DequePart
  lost : Bool
  deriving DecidableEq
instance : Inhabited DequeSteal := ⟨⟨default, default⟩⟩
structure DequePush where
  part : DequePart
  v : Int
  deriving DecidableEq
instance : Inhabited DequePush := ⟨⟨default, default⟩⟩
structure BarrierArrive where
  l : Layout
  next : Int
  own : Int
  last : Bool
  deriving DecidableEq
instance : Inhabited BarrierArrive := ⟨⟨default, default, default, default⟩⟩
structure WorkerWorker where
  c : Csr
  l : Layout
  id : Int
  limit : Int
  at_ : Int
  pop : DequePop
  steal : DequeSteal
  put : DequePush
  arrive : BarrierArrive
  from_ : Int
  u : Int
  v : Int
  h : Int
  e : Int
  wakes : Bool
  holds : Bool
  lifts : Int
  event : Evt
  has : Bool
  a : Int
  target : Int
  room : Int
  d : Int
  low : Int
  deriving DecidableEq
instance : Inhabited WorkerWorker := ⟨⟨default, default, default, default, default, default, default, default, default, default, default, default, default, default, default, default, default, default, default, default, default, default, default, default⟩⟩
def Zm (q1 q2 q3 q4 q5 q6 : Option Addr × Nat × Nat) (x : WorkerWorker) : List Value := [.int .i64 x.c.N, .int .i64 x.c.S, .int .i64 x.c.T, .slice q1.1 q1.2.1 q1.2.2, .slice q2.1 q2.2.1 q2.2.2, .slice q3.1 q3.2.1 q3.2.2, .slice q4.1 q4.2.1 q4.2.2, .slice q5.1 q5.2.1 q5.2.2, .slice q6.1 q6.2.1 q6.2.2, .int .i64 x.l.Verts, .int .i64 x.l.Arcs, .int .i64 x.l.Workers, .int .i64 x.l.Room, .int .i64 x.l.Res, .int .i64 x.l.Ex, .int .i64 x.l.H, .int .i64 x.l.Flag, .int .i64 x.l.Pending, .int .i64 x.l.Ask, .int .i64 x.l.Count, .int .i64 x.l.Sense, .int .i64 x.l.Deques, .int .i64 x.l.Size, .int .i64 x.id, .int .i64 x.limit, .int .i64 x.at_, .int .i64 x.pop.part.l.Verts, .int .i64 x.pop.part.l.Arcs, .int .i64 x.pop.part.l.Workers, .int .i64 x.pop.part.l.Room, .int .i64 x.pop.part.l.Res, .int .i64 x.pop.part.l.Ex, .int .i64 x.pop.part.l.H, .int .i64 x.pop.part.l.Flag, .int .i64 x.pop.part.l.Pending, .int .i64 x.pop.part.l.Ask, .int .i64 x.pop.part.l.Count, .int .i64 x.pop.part.l.Sense, .int .i64 x.pop.part.l.Deques, .int .i64 x.pop.part.l.Size, .int .i64 x.pop.part.w, .int .i64 x.pop.part.at_, .int .i64 x.pop.part.t, .int .i64 x.pop.part.b, .int .i64 x.pop.part.x, .bool x.pop.part.done, .bool x.pop.part.got, .int .i64 x.steal.part.l.Verts, .int .i64 x.steal.part.l.Arcs, .int .i64 x.steal.part.l.Workers, .int .i64 x.steal.part.l.Room, .int .i64 x.steal.part.l.Res, .int .i64 x.steal.part.l.Ex, .int .i64 x.steal.part.l.H, .int .i64 x.steal.part.l.Flag, .int .i64 x.steal.part.l.Pending, .int .i64 x.steal.part.l.Ask, .int .i64 x.steal.part.l.Count, .int .i64 x.steal.part.l.Sense, .int .i64 x.steal.part.l.Deques, .int .i64 x.steal.part.l.Size, .int .i64 x.steal.part.w, .int .i64 x.steal.part.at_, .int .i64 x.steal.part.t, .int .i64 x.steal.part.b, .int .i64 x.steal.part.x, .bool x.steal.part.done, .bool x.steal.part.got, .bool x.steal.lost, .int .i64 x.put.part.l.Verts, .int .i64 x.put.part.l.Arcs, .int .i64 x.put.part.l.Workers, .int .i64 x.put.part.l.Room, .int .i64 x.put.part.l.Res, .int .i64 x.put.part.l.Ex, .int .i64 x.put.part.l.H, .int .i64 x.put.part.l.Flag, .int .i64 x.put.part.l.Pending, .int .i64 x.put.part.l.Ask, .int .i64 x.put.part.l.Count, .int .i64 x.put.part.l.Sense, .int .i64 x.put.part.l.Deques, .int .i64 x.put.part.l.Size, .int .i64 x.put.part.w, .int .i64 x.put.part.at_, .int .i64 x.put.part.t, .int .i64 x.put.part.b, .int .i64 x.put.part.x, .bool x.put.part.done, .bool x.put.part.got, .int .i64 x.put.v, .int .i64 x.arrive.l.Verts, .int .i64 x.arrive.l.Arcs, .int .i64 x.arrive.l.Workers, .int .i64 x.arrive.l.Room, .int .i64 x.arrive.l.Res, .int .i64 x.arrive.l.Ex, .int .i64 x.arrive.l.H, .int .i64 x.arrive.l.Flag, .int .i64 x.arrive.l.Pending, .int .i64 x.arrive.l.Ask, .int .i64 x.arrive.l.Count, .int .i64 x.arrive.l.Sense, .int .i64 x.arrive.l.Deques, .int .i64 x.arrive.l.Size, .int .u8 x.arrive.next, .int .i64 x.arrive.own, .bool x.arrive.last, .int .i64 x.from_, .int .i64 x.u, .int .i64 x.v, .int .i64 x.h, .int .i64 x.e, .bool x.wakes, .bool x.holds, .int .i64 x.lifts, .int .i64 x.event.Who, .int .u8 x.event.What, .int .i64 x.event.U, .int .i64 x.event.Arc, .int .i64 x.event.D, .int .i64 x.event.H, .int .i64 x.event.Low, .bool x.has, .int .i64 x.a, .int .i64 x.target, .int .i64 x.room, .int .i64 x.d, .int .i64 x.low]
structure AtomicInt64 where
  v : Int
  deriving DecidableEq
instance : Inhabited AtomicInt64 := ⟨⟨default⟩⟩
structure CellsBank where
  l : List Int
  deriving DecidableEq
instance : Inhabited CellsBank := ⟨⟨default⟩⟩
structure CountOnce where
  done : Bool
  is : Bool
  deriving DecidableEq
instance : Inhabited CountOnce := ⟨⟨default, default⟩⟩
structure CountAsked where
  o : CountOnce
  deriving DecidableEq
instance : Inhabited CountAsked := ⟨⟨default⟩⟩
structure CountZero where
  o : CountOnce
  deriving DecidableEq
instance : Inhabited CountZero := ⟨⟨default⟩⟩
structure FlagsOnce where
  cell : Int
  done : Bool
  deriving DecidableEq
instance : Inhabited FlagsOnce := ⟨⟨default, default⟩⟩
structure FlagsClaim where
  once : FlagsOnce
  got : Bool
  deriving DecidableEq
instance : Inhabited FlagsClaim := ⟨⟨default, default⟩⟩
structure CountUp where
  o : CountOnce
  deriving DecidableEq
instance : Inhabited CountUp := ⟨⟨default⟩⟩
structure CountAsk where
  o : CountOnce
  deriving DecidableEq
instance : Inhabited CountAsk := ⟨⟨default⟩⟩
structure FlagsFree where
  once : FlagsOnce
  deriving DecidableEq
instance : Inhabited FlagsFree := ⟨⟨default⟩⟩
structure CountDown where
  o : CountOnce
  deriving DecidableEq
instance : Inhabited CountDown := ⟨⟨default⟩⟩
def Z04 (w0 : WorkerWorker) : Option (Bool) :=
  some (decide (w0.limit = 0))
def Wv (w0 : WorkerWorker) : Option (Bool) :=
  Option.bind (Z04 w0) fun r1 =>
  if r1 = true then
  (some true)
  else
  some (decide (w0.at_ = 25))
def Z5a (p0 : WorkerWorker) : Option (Int × WorkerWorker) :=
  if p0.pop.part.done = true then
  (some ((-1), p0))
  else
  gd (i64ok (p0.pop.part.at_ + 1)) <|
  gd (i64ok ((p0.pop.part.at_ + 1) - 1)) <|
  some (((p0.pop.part.at_ + 1) - 1), ({ p0 with pop := (DequePop.mk ({ p0.pop.part with at_ := (p0.pop.part.at_ + 1) } : DequePart)) } : WorkerWorker))
def Re (l0 : Layout) (w1 : Int) : Option (Int) :=
  gd (i64ok (l0.Room + 2)) <|
  gd (i64ok (w1 * (l0.Room + 2))) <|
  gd (i64ok (l0.Deques + (w1 * (l0.Room + 2)))) <|
  some (l0.Deques + (w1 * (l0.Room + 2)))
def Rt (l0 : Layout) (w1 : Int) : Option (Int) :=
  Option.bind (Re l0 w1) fun r3 =>
  gd (i64ok (r3 + 1)) <|
  some (r3 + 1)
def Lp (p0 : WorkerWorker) : Option (Int) :=
  Option.bind (Rt p0.pop.part.l p0.pop.part.w) fun r1 =>
  some r1
def No (b0 : CellsBank) (i1 : Int) : Option (Unit) :=
  if i1 < 0 then
  (none)
  else
  if (b0.l.length : Int) ≤ i1 then
  (none)
  else
  gd (inb i1 b0.l.length) <|
  some ()
def Z9d (x0 : List Int) (a0 : Int) : Option (Int) :=
  some (x0.getD a0.toNat 0)
def Z0x (b0 : CellsBank) (i1 : Int) : Option (Unit) :=
  if i1 < 0 then
  (some ())
  else
  if (b0.l.length : Int) ≤ i1 then
  (some ())
  else
  none
def Vl (b0 : CellsBank) (i1 : Int) : Option (Int) :=
  if inb i1 b0.l.length then
  (Option.bind (No b0 i1) fun _ =>
  Option.bind (Z9d b0.l i1) fun r3 =>
  some r3)
  else
  Option.bind (Z0x b0 i1) fun _ =>
  some 0
def Z8i (p0 : WorkerWorker) (b1 : CellsBank) : Option (WorkerWorker) :=
  Option.bind (Lp p0) fun r2 =>
  Option.bind (Vl b1 r2) fun r4 =>
  some ({ p0 with pop := (DequePop.mk ({ p0.pop.part with b := r4 } : DequePart)) } : WorkerWorker)
def Z86 (p0 : WorkerWorker) (b1 : CellsBank) : Option (WorkerWorker) :=
  Option.bind (Z8i p0 b1) fun r2 =>
  gd (i64ok (r2.pop.part.b - 1)) <|
  some ({ p0 with pop := (DequePop.mk ({ p0.pop.part with b := (r2.pop.part.b - 1) } : DequePart)) } : WorkerWorker)
def Z81 (x0 : List Int) (a1 a0 : Int) : Option (List Int) :=
  some (x0.set a1.toNat a0)
def Ub (b0 : CellsBank) (i1 v2 : Int) : Option (CellsBank) :=
  if inb i1 b0.l.length then
  (Option.bind (No b0 i1) fun _ =>
  Option.bind (Z81 b0.l i1 v2) fun r5 =>
  some (CellsBank.mk r5))
  else
  Option.bind (Z0x b0 i1) fun _ =>
  some b0
def Z6y (p0 : WorkerWorker) (b1 : CellsBank) : Option (CellsBank) :=
  Option.bind (Lp p0) fun r3 =>
  Option.bind (Ub b1 r3 p0.pop.part.b) fun r5 =>
  some r5
def Z2e (p0 : WorkerWorker) : Option (Int) :=
  Option.bind (Re p0.pop.part.l p0.pop.part.w) fun r1 =>
  some r1
def Z64 (p0 : WorkerWorker) (b1 : CellsBank) : Option (WorkerWorker) :=
  Option.bind (Z2e p0) fun r2 =>
  Option.bind (Vl b1 r2) fun r4 =>
  some ({ p0 with pop := (DequePop.mk ({ p0.pop.part with t := r4 } : DequePart)) } : WorkerWorker)
def Z71 (p0 : WorkerWorker) (b1 : CellsBank) : Option (WorkerWorker) :=
  Option.bind (Z64 p0 b1) fun r2 =>
  some ({ p0 with pop := (DequePop.mk ({ p0.pop.part with t := r2.pop.part.t } : DequePart)) } : WorkerWorker)
def Z1s (p0 : WorkerWorker) (b1 : CellsBank) : Option (WorkerWorker × CellsBank) :=
  Option.bind (Lp p0) fun r4 =>
  gd (i64ok (p0.pop.part.b + 1)) <|
  Option.bind (Ub b1 r4 (p0.pop.part.b + 1)) fun r7 =>
  some (({ p0 with pop := (DequePop.mk ({ p0.pop.part with done := true } : DequePart)) } : WorkerWorker), r7)
def Rx (l0 : Layout) (w1 a0 : Int) : Option (Int) :=
  Option.bind (Re l0 w1) fun r3 =>
  gd (i64ok (r3 + 2)) <|
  gd (i64ok (l0.Room - 1)) <|
  gd (i64ok ((r3 + 2) + (Gm .i64 a0 (l0.Room - 1)))) <|
  some ((r3 + 2) + (Gm .i64 a0 (l0.Room - 1)))
def Z6m (p0 : WorkerWorker) (a0 : Int) : Option (Int) :=
  Option.bind (Rx p0.pop.part.l p0.pop.part.w a0) fun r1 =>
  some r1
def Z5g (p0 : WorkerWorker) (a0 : Bool) : Option (WorkerWorker) :=
  some ({ p0 with pop := (DequePop.mk ({ p0.pop.part with done := true, got := a0 } : DequePart)) } : WorkerWorker)
def Z9p (p0 : WorkerWorker) (b1 : CellsBank) : Option (WorkerWorker × CellsBank) :=
  if p0.pop.part.b < p0.pop.part.t then
  (Option.bind (Z1s p0 b1) fun (r5, r6) =>
  some (({ p0 with pop := (DequePop.mk ({ p0.pop.part with done := r5.pop.part.done } : DequePart)) } : WorkerWorker), r6))
  else
  Option.bind (Z6m p0 p0.pop.part.b) fun r9 =>
  Option.bind (Vl b1 r9) fun a0 =>
  if p0.pop.part.t < p0.pop.part.b then
  (Option.bind (Z5g ({ p0 with pop := (DequePop.mk ({ p0.pop.part with x := a0 } : DequePart)) } : WorkerWorker) true) fun a1 =>
  some (({ p0 with pop := (DequePop.mk ({ p0.pop.part with x := a0, done := a1.pop.part.done, got := a1.pop.part.got } : DequePart)) } : WorkerWorker), b1))
  else
  some (({ p0 with pop := (DequePop.mk ({ p0.pop.part with x := a0 } : DequePart)) } : WorkerWorker), b1)
def Z88 (x0 : List Int) (a0 a1 a2 : Int) : Option (Bool × List Int) :=
  some ((decide ((x0.getD a0.toNat 0) = a1)), (x0.set a0.toNat (if (x0.getD a0.toNat 0) = a1 then a2 else (x0.getD a0.toNat 0))))
def Z1l (b0 : CellsBank) (i1 a0 v3 : Int) : Option (Bool × CellsBank) :=
  if inb i1 b0.l.length then
  (Option.bind (No b0 i1) fun _ =>
  Option.bind (Z88 b0.l i1 a0 v3) fun (r5, r6) =>
  some (r5, (CellsBank.mk r6)))
  else
  Option.bind (Z0x b0 i1) fun _ =>
  some (false, b0)
def Z82 (p0 : WorkerWorker) (b1 : CellsBank) : Option (WorkerWorker × CellsBank) :=
  Option.bind (Z2e p0) fun r4 =>
  gd (i64ok (p0.pop.part.t + 1)) <|
  Option.bind (Z1l b1 r4 p0.pop.part.t (p0.pop.part.t + 1)) fun (r7, r8) =>
  some (({ p0 with pop := (DequePop.mk ({ p0.pop.part with got := r7 } : DequePart)) } : WorkerWorker), r8)
def Z40 (p0 : WorkerWorker) (b1 : CellsBank) : Option (Bool × WorkerWorker × CellsBank) :=
  Option.bind (Z5a p0) fun (r4, r5) =>
  if 0 ≤ r4 then
  (if r4 = 0 then
  (Option.bind (Z86 ({ p0 with pop := (DequePop.mk ({ p0.pop.part with at_ := r5.pop.part.at_ } : DequePart)) } : WorkerWorker) b1) fun a2 =>
  some (p0.pop.part.done, ({ p0 with pop := (DequePop.mk ({ p0.pop.part with at_ := r5.pop.part.at_, b := a2.pop.part.b } : DequePart)) } : WorkerWorker), b1))
  else
  if r4 = 1 then
  (Option.bind (Z6y ({ p0 with pop := (DequePop.mk ({ p0.pop.part with at_ := r5.pop.part.at_ } : DequePart)) } : WorkerWorker) b1) fun a3 =>
  some (p0.pop.part.done, ({ p0 with pop := (DequePop.mk ({ p0.pop.part with at_ := r5.pop.part.at_ } : DequePart)) } : WorkerWorker), a3))
  else
  if r4 = 2 then
  (Option.bind (Z71 ({ p0 with pop := (DequePop.mk ({ p0.pop.part with at_ := r5.pop.part.at_ } : DequePart)) } : WorkerWorker) b1) fun a4 =>
  some (p0.pop.part.done, ({ p0 with pop := (DequePop.mk ({ p0.pop.part with at_ := r5.pop.part.at_, t := a4.pop.part.t } : DequePart)) } : WorkerWorker), b1))
  else
  if r4 = 3 then
  (Option.bind (Z9p ({ p0 with pop := (DequePop.mk ({ p0.pop.part with at_ := r5.pop.part.at_ } : DequePart)) } : WorkerWorker) b1) fun (a0, a5) =>
  some (a0.pop.part.done, ({ p0 with pop := (DequePop.mk ({ p0.pop.part with at_ := r5.pop.part.at_, x := a0.pop.part.x, done := a0.pop.part.done, got := a0.pop.part.got } : DequePart)) } : WorkerWorker), a5))
  else
  if r4 = 4 then
  (Option.bind (Z82 ({ p0 with pop := (DequePop.mk ({ p0.pop.part with at_ := r5.pop.part.at_ } : DequePart)) } : WorkerWorker) b1) fun (a6, a7) =>
  some (p0.pop.part.done, ({ p0 with pop := (DequePop.mk ({ p0.pop.part with at_ := r5.pop.part.at_, got := a6.pop.part.got } : DequePart)) } : WorkerWorker), a7))
  else
  if r4 = 5 then
  (Option.bind (Z1s ({ p0 with pop := (DequePop.mk ({ p0.pop.part with at_ := r5.pop.part.at_ } : DequePart)) } : WorkerWorker) b1) fun (a1, a8) =>
  some (a1.pop.part.done, ({ p0 with pop := (DequePop.mk ({ p0.pop.part with at_ := r5.pop.part.at_, done := a1.pop.part.done } : DequePart)) } : WorkerWorker), a8))
  else
  none)
  else
  some (p0.pop.part.done, ({ p0 with pop := (DequePop.mk ({ p0.pop.part with at_ := r5.pop.part.at_ } : DequePart)) } : WorkerWorker), b1)
def Z4x (p0 : WorkerWorker) (x2 : Bool) : Option (Int × Bool) :=
  if x2 = true then
  (some (0, false))
  else
  some (p0.pop.part.x, true)
def Z67 (p0 : WorkerWorker) : Option (Int × Bool) :=
  if (!p0.pop.part.done) = true then
  (Z4x p0 true)
  else
  Z4x p0 (!p0.pop.part.got)
def Z94 (p0 : WorkerWorker) : Option (Int × Bool) :=
  Option.bind (Z67 p0) fun (r1, r2) =>
  some (r1, r2)
def Z6b (w0 : WorkerWorker) (v1 : Int) : Option (WorkerWorker) :=
  some ({ w0 with at_ := 4, u := v1, holds := true } : WorkerWorker)
def Za7 (l0 : Layout) (w1 : Int) : Option (DequeSteal) :=
  some (DequeSteal.mk (DequePart.mk l0 w1 0 0 0 0 false false) false)
def Z8o (w0 : WorkerWorker) (k1 : Int) : Option (WorkerWorker) :=
  if w0.l.Workers ≤ k1 then
  (some ({ w0 with at_ := 2, from_ := k1 } : WorkerWorker))
  else
  gd (i64ok (w0.id + k1)) <|
  gd (w0.l.Workers ≠ 0) <|
  Option.bind (Za7 w0.l ((w0.id + k1).tmod w0.l.Workers)) fun r5 =>
  some ({ w0 with at_ := 1, steal := r5, from_ := k1 } : WorkerWorker)
def Z8p (w0 : WorkerWorker) (b1 : CellsBank) : Option (WorkerWorker × CellsBank) :=
  Option.bind (Z40 w0 b1) fun (r4, r5, r6) =>
  if (!r4) = true then
  (some (({ w0 with pop := (DequePop.mk ({ r5.pop.part with l := w0.pop.part.l, w := w0.pop.part.w } : DequePart)) } : WorkerWorker), r6))
  else
  Option.bind (Z94 ({ w0 with pop := (DequePop.mk ({ r5.pop.part with l := w0.pop.part.l, w := w0.pop.part.w } : DequePart)) } : WorkerWorker)) fun (a2, a3) =>
  if a3 = true then
  (Option.bind (Z6b ({ w0 with pop := (DequePop.mk ({ r5.pop.part with l := w0.pop.part.l, w := w0.pop.part.w } : DequePart)) } : WorkerWorker) a2) fun a0 =>
  some (({ w0 with at_ := a0.at_, pop := (DequePop.mk ({ r5.pop.part with l := w0.pop.part.l, w := w0.pop.part.w } : DequePart)), u := a0.u, holds := a0.holds } : WorkerWorker), r6))
  else
  Option.bind (Z8o ({ w0 with pop := (DequePop.mk ({ r5.pop.part with l := w0.pop.part.l, w := w0.pop.part.w } : DequePart)) } : WorkerWorker) 1) fun a1 =>
  some (({ w0 with at_ := a1.at_, pop := (DequePop.mk ({ r5.pop.part with l := w0.pop.part.l, w := w0.pop.part.w } : DequePart)), steal := a1.steal, from_ := a1.from_ } : WorkerWorker), r6)
def Z1o (l0 : Layout) : Option (Unit) :=
  some ()
def Z44 (b0 : CellsBank) (c1 : Layout) : Option (Bool) :=
  Option.bind (Vl b0 c1.Ask) fun r1 =>
  some (decide (r1 ≠ 0))
def Z2n (a1 : CountAsked) (a0 : Layout) (b1 : CellsBank) : Option (Bool × CountAsked) :=
  if (!a1.o.done) = true then
  (Option.bind (Z44 b1 a0) fun r3 =>
  some (true, (CountAsked.mk (CountOnce.mk true r3))))
  else
  some (true, a1)
def Z0z (a0 : CountAsked) (a1 : Layout) (b1 : CellsBank) : Option (Bool × CountAsked) :=
  Option.bind (Z2n a0 a1 b1) fun (r2, r3) =>
  some (r2, r3)
def Z24 (a0 : CountAsked) (a1 : Layout) : Option (Bool) :=
  some a0.o.is
def Z1i (l0 : Layout) : Option (BarrierArrive) :=
  some (BarrierArrive.mk l0 0 0 false)
def Rs (w0 : WorkerWorker) : Option (WorkerWorker) :=
  Option.bind (Z1i w0.l) fun r2 =>
  some ({ w0 with at_ := 24, arrive := r2 } : WorkerWorker)
def Z72 (w0 : WorkerWorker) (b1 : CellsBank) : Option (WorkerWorker) :=
  Option.bind (Z1o w0.l) fun _ =>
  Option.bind (Z0z (CountAsked.mk (CountOnce.mk false false)) w0.l b1) fun (r7, r8) =>
  Option.bind (Z24 r8 w0.l) fun a1 =>
  if a1 = true then
  (Option.bind (Rs w0) fun a0 =>
  some ({ w0 with at_ := a0.at_, arrive := a0.arrive } : WorkerWorker))
  else
  some ({ w0 with at_ := 3 } : WorkerWorker)
def Z9s (l0 : Layout) : Option (Unit) :=
  some ()
def Z6n (b0 : CellsBank) (c1 : Layout) : Option (Bool) :=
  Option.bind (Vl b0 c1.Pending) fun r1 =>
  some (decide (r1 = 0))
def Z6d (a1 : CountZero) (a0 : Layout) (b1 : CellsBank) : Option (Bool × CountZero) :=
  if (!a1.o.done) = true then
  (Option.bind (Z6n b1 a0) fun r3 =>
  some (true, (CountZero.mk (CountOnce.mk true r3))))
  else
  some (true, a1)
def Z5u (z0 : CountZero) (a0 : Layout) (b1 : CellsBank) : Option (Bool × CountZero) :=
  Option.bind (Z6d z0 a0 b1) fun (r2, r3) =>
  some (r2, r3)
def Z7w (z0 : CountZero) (a0 : Layout) : Option (Bool) :=
  some z0.o.is
def Z22 (l0 : Layout) (w1 : Int) : Option (DequePop) :=
  some (DequePop.mk (DequePart.mk l0 w1 0 0 0 0 false false))
def Lt (w0 : WorkerWorker) : Option (WorkerWorker) :=
  Option.bind (Z22 w0.l w0.id) fun r2 =>
  some ({ w0 with at_ := 0, pop := r2 } : WorkerWorker)
def Z7x (w0 : WorkerWorker) (b1 : CellsBank) : Option (WorkerWorker) :=
  Option.bind (Z9s w0.l) fun _ =>
  Option.bind (Z5u (CountZero.mk (CountOnce.mk false false)) w0.l b1) fun (r7, r8) =>
  Option.bind (Z7w r8 w0.l) fun a2 =>
  if a2 = true then
  (Option.bind (Rs w0) fun a0 =>
  some ({ w0 with at_ := a0.at_, arrive := a0.arrive } : WorkerWorker))
  else
  Option.bind (Lt w0) fun a1 =>
  some ({ w0 with at_ := a1.at_, pop := a1.pop } : WorkerWorker)
def Ko (w0 : WorkerWorker) (a2 : Bool) (a1 a0 : Int) : Option (WorkerWorker) :=
  if a2 = true then
  (some ({ w0 with at_ := a1 } : WorkerWorker))
  else
  some ({ w0 with at_ := a0 } : WorkerWorker)
def Z7s (w0 : WorkerWorker) (b1 : CellsBank) : Option (WorkerWorker) :=
  gd (i64ok (w0.l.H + w0.u)) <|
  Option.bind (Vl b1 (w0.l.H + w0.u)) fun r3 =>
  Option.bind (Ko ({ w0 with h := r3 } : WorkerWorker) (decide (w0.c.N ≤ r3)) 18 5) fun r5 =>
  some ({ w0 with at_ := r5.at_, h := r3 } : WorkerWorker)
def Z09 (w0 : WorkerWorker) : Option (WorkerWorker) :=
  gd (inb w0.u w0.c.First.length) <|
  gd (i64ok (w0.u + 1)) <|
  gd (inb (w0.u + 1) w0.c.First.length) <|
  if (w0.c.First.getD w0.u.toNat 0) = (w0.c.First.getD (w0.u + 1).toNat 0) then
  (some ({ w0 with at_ := 18, a := (w0.c.First.getD w0.u.toNat 0), target := (-1) } : WorkerWorker))
  else
  some ({ w0 with at_ := 6, a := (w0.c.First.getD w0.u.toNat 0), target := (-1) } : WorkerWorker)
def Z73 (w0 : WorkerWorker) (b1 : CellsBank) : Option (WorkerWorker) :=
  gd (i64ok (w0.l.Ex + w0.u)) <|
  Option.bind (Vl b1 (w0.l.Ex + w0.u)) fun r3 =>
  if r3 ≤ 0 then
  (some ({ w0 with at_ := 18, e := r3 } : WorkerWorker))
  else
  Option.bind (Z09 ({ w0 with e := r3 } : WorkerWorker)) fun r6 =>
  some ({ w0 with at_ := r6.at_, e := r3, a := r6.a, target := r6.target } : WorkerWorker)
def Z0u (w0 : WorkerWorker) : Option (WorkerWorker) :=
  gd (i64ok (w0.a + 1)) <|
  gd (i64ok (w0.u + 1)) <|
  gd (inb (w0.u + 1) w0.c.First.length) <|
  if (w0.a + 1) < (w0.c.First.getD (w0.u + 1).toNat 0) then
  (some ({ w0 with at_ := 6, a := (w0.a + 1) } : WorkerWorker))
  else
  if w0.target < 0 then
  (some ({ w0 with at_ := 18, a := (w0.a + 1) } : WorkerWorker))
  else
  if w0.low < w0.h then
  (some ({ w0 with at_ := 8, a := (w0.a + 1) } : WorkerWorker))
  else
  some ({ w0 with at_ := 15, a := (w0.a + 1) } : WorkerWorker)
def Z5f (w0 : WorkerWorker) (b1 : CellsBank) : Option (WorkerWorker) :=
  gd (i64ok (w0.l.Res + w0.a)) <|
  Option.bind (Vl b1 (w0.l.Res + w0.a)) fun r3 =>
  if 0 < r3 then
  (some ({ w0 with at_ := 7, d := r3 } : WorkerWorker))
  else
  Option.bind (Z0u ({ w0 with d := r3 } : WorkerWorker)) fun r6 =>
  some ({ w0 with at_ := r6.at_, a := r6.a, d := r3 } : WorkerWorker)
def Z4o (w0 w9 : WorkerWorker) : Option (WorkerWorker) :=
  Option.bind (Z0u ({ w9 with c := ({ w0.c with N := w9.c.N, S := w9.c.S, T := w9.c.T } : Csr) } : WorkerWorker)) fun a0 =>
  some ({ w9 with c := ({ w0.c with N := w9.c.N, S := w9.c.S, T := w9.c.T } : Csr), at_ := a0.at_, a := a0.a } : WorkerWorker)
def Z3e (w0 : WorkerWorker) (r4 : Int) (x7 : Bool) : Option (WorkerWorker) :=
  if x7 = true then
  (Z4o w0 ({ w0 with target := w0.a, room := w0.d, low := r4 } : WorkerWorker))
  else
  Z4o w0 w0
def Z7k (w0 : WorkerWorker) (b1 : CellsBank) : Option (WorkerWorker) :=
  gd (inb w0.a w0.c.Head.length) <|
  gd (i64ok (w0.l.H + (w0.c.Head.getD w0.a.toNat 0))) <|
  Option.bind (Vl b1 (w0.l.H + (w0.c.Head.getD w0.a.toNat 0))) fun r4 =>
  if w0.target < 0 then
  (Z3e w0 r4 true)
  else
  Z3e w0 r4 (decide (r4 < w0.low))
def Z6p (x0 : List Int) (a1 a0 : Int) : Option (Int × List Int) :=
  gd (i64ok ((x0.getD a1.toNat 0) + a0)) <|
  some (((x0.getD a1.toNat 0) + a0), (x0.set a1.toNat ((x0.getD a1.toNat 0) + a0)))
def Kw (b0 : CellsBank) (i1 d2 : Int) : Option (Int × CellsBank) :=
  if inb i1 b0.l.length then
  (Option.bind (No b0 i1) fun _ =>
  Option.bind (Z6p b0.l i1 d2) fun (r5, r6) =>
  some (r5, (CellsBank.mk r6)))
  else
  Option.bind (Z0x b0 i1) fun _ =>
  some (0, b0)
def Z1x (w0 : WorkerWorker) (e1 : Evt) : Option (WorkerWorker) :=
  some ({ w0 with event := (Evt.mk w0.id e1.What w0.u e1.Arc e1.D w0.h w0.low), has := true } : WorkerWorker)
def Z5q (w0 : WorkerWorker) (b1 : CellsBank) : Option (WorkerWorker × CellsBank) :=
  gd (i64ok (w0.l.Res + w0.target)) <|
  gd (i64ok (-(min w0.e w0.room))) <|
  Option.bind (Kw b1 (w0.l.Res + w0.target) (-(min w0.e w0.room))) fun (r6, r7) =>
  Option.bind (Z1x ({ w0 with d := (min w0.e w0.room) } : WorkerWorker) (Evt.mk 0 1 0 w0.target (min w0.e w0.room) 0 0)) fun a0 =>
  some (({ w0 with at_ := 9, event := a0.event, has := a0.has, d := (min w0.e w0.room) } : WorkerWorker), r7)
def Z8s (w0 : WorkerWorker) (b1 : CellsBank) : Option (WorkerWorker × CellsBank) :=
  gd (inb w0.target w0.c.Rev.length) <|
  gd (i64ok (w0.l.Res + (w0.c.Rev.getD w0.target.toNat 0))) <|
  Option.bind (Kw b1 (w0.l.Res + (w0.c.Rev.getD w0.target.toNat 0)) w0.d) fun (r6, r7) =>
  some (({ w0 with at_ := 10 } : WorkerWorker), r7)
def Z5s (w0 : WorkerWorker) (b1 : CellsBank) : Option (WorkerWorker × CellsBank) :=
  gd (i64ok (w0.l.Ex + w0.u)) <|
  gd (i64ok (-w0.d)) <|
  Option.bind (Kw b1 (w0.l.Ex + w0.u) (-w0.d)) fun (r6, r7) =>
  some (({ w0 with at_ := 11, e := r6 } : WorkerWorker), r7)
def Z7j (w0 : WorkerWorker) (b1 : CellsBank) : Option (WorkerWorker × CellsBank) :=
  gd (inb w0.target w0.c.Head.length) <|
  gd (i64ok (w0.l.Ex + (w0.c.Head.getD w0.target.toNat 0))) <|
  Option.bind (Kw b1 (w0.l.Ex + (w0.c.Head.getD w0.target.toNat 0)) w0.d) fun (r6, r7) =>
  if (w0.c.Head.getD w0.target.toNat 0) = w0.c.S then
  (Option.bind (Ko ({ w0 with v := (w0.c.Head.getD w0.target.toNat 0) } : WorkerWorker) true 17 12) fun a0 =>
  some (({ w0 with at_ := a0.at_, v := (w0.c.Head.getD w0.target.toNat 0) } : WorkerWorker), r7))
  else
  if (w0.c.Head.getD w0.target.toNat 0) = w0.c.T then
  (Option.bind (Ko ({ w0 with v := (w0.c.Head.getD w0.target.toNat 0) } : WorkerWorker) true 17 12) fun a1 =>
  some (({ w0 with at_ := a1.at_, v := (w0.c.Head.getD w0.target.toNat 0) } : WorkerWorker), r7))
  else
  Option.bind (Ko ({ w0 with v := (w0.c.Head.getD w0.target.toNat 0) } : WorkerWorker) (decide (r6 ≠ w0.d)) 17 12) fun a2 =>
  some (({ w0 with at_ := a2.at_, v := (w0.c.Head.getD w0.target.toNat 0) } : WorkerWorker), r7)
def Z1t (l0 : Layout) (v1 : Int) : Option (FlagsClaim) :=
  gd (i64ok (l0.Flag + v1)) <|
  some (FlagsClaim.mk (FlagsOnce.mk (l0.Flag + v1) false) false)
def Z3d (a0 : FlagsClaim) : Option (Bool × FlagsClaim) :=
  some ((!a0.once.done), (FlagsClaim.mk (FlagsOnce.mk a0.once.cell true) a0.got))
def Z2g (c0 : FlagsClaim) (b1 : CellsBank) : Option (Bool × FlagsClaim × CellsBank) :=
  Option.bind (Z3d c0) fun (r4, r5) =>
  if r4 = true then
  (Option.bind (Z1l b1 c0.once.cell 0 1) fun (r8, r9) =>
  some (true, (FlagsClaim.mk (FlagsOnce.mk c0.once.cell r5.once.done) r8), r9))
  else
  some (true, (FlagsClaim.mk (FlagsOnce.mk c0.once.cell r5.once.done) c0.got), b1)
def Z0q (c0 : FlagsClaim) : Option (Bool) :=
  some c0.got
def Z7n (w0 : WorkerWorker) (b1 : CellsBank) : Option (WorkerWorker × CellsBank) :=
  Option.bind (Z1t w0.l w0.v) fun r4 =>
  Option.bind (Z2g r4 b1) fun (r8, r9, a1) =>
  Option.bind (Z0q (FlagsClaim.mk (FlagsOnce.mk r4.once.cell r9.once.done) r9.got)) fun a0 =>
  Option.bind (Ko ({ w0 with wakes := a0 } : WorkerWorker) a0 13 17) fun a2 =>
  some (({ w0 with at_ := a2.at_, wakes := a0 } : WorkerWorker), a1)
def Z05 (l0 : Layout) (n1 : Int) : Option (Unit) :=
  some ()
def Z5p (l0 : Layout) (n1 : Int) : Option (Unit) :=
  Option.bind (Z05 l0 n1) fun _ =>
  some ()
def Z0b (b0 : CellsBank) (c1 : Layout) (c2 : Int) : Option (Bool × CellsBank) :=
  Option.bind (Kw b0 c1.Pending c2) fun (r3, r4) =>
  some ((decide (r3 = 0)), r4)
def Z5l (a2 : CountUp) (a1 : Layout) (a0 : Int) (b1 : CellsBank) : Option (Bool × CountUp × CellsBank) :=
  if (!a2.o.done) = true then
  (Option.bind (Z0b b1 a1 a0) fun (r5, r6) =>
  some (true, (CountUp.mk (CountOnce.mk true r5)), r6))
  else
  some (true, a2, b1)
def Z97 (u0 : CountUp) (a1 : Layout) (a0 : Int) (b1 : CellsBank) : Option (Bool × CountUp × CellsBank) :=
  Option.bind (Z5l u0 a1 a0 b1) fun (r4, r5, r6) =>
  some (r4, r5, r6)
def Z9i (l0 : Layout) (w1 v2 : Int) : Option (DequePush) :=
  some (DequePush.mk (DequePart.mk l0 w1 0 0 0 0 false false) v2)
def Z5x (w0 : WorkerWorker) (b1 : CellsBank) : Option (WorkerWorker × CellsBank) :=
  Option.bind (Z5p w0.l 1) fun _ =>
  Option.bind (Z97 (CountUp.mk (CountOnce.mk false false)) w0.l 1 b1) fun (a2, a3, a0) =>
  Option.bind (Z9i w0.l w0.id w0.v) fun a1 =>
  some (({ w0 with at_ := 14, put := a1 } : WorkerWorker), a0)
def Z6j (p0 : WorkerWorker) : Option (Int × WorkerWorker) :=
  if p0.put.part.done = true then
  (some ((-1), p0))
  else
  gd (i64ok (p0.put.part.at_ + 1)) <|
  gd (i64ok ((p0.put.part.at_ + 1) - 1)) <|
  some (((p0.put.part.at_ + 1) - 1), ({ p0 with put := (DequePush.mk ({ p0.put.part with at_ := (p0.put.part.at_ + 1) } : DequePart) p0.put.v) } : WorkerWorker))
def Z1w (p0 : WorkerWorker) : Option (Int) :=
  Option.bind (Rt p0.put.part.l p0.put.part.w) fun r1 =>
  some r1
def Z7y (p0 : WorkerWorker) (b1 : CellsBank) : Option (WorkerWorker) :=
  Option.bind (Z1w p0) fun r2 =>
  Option.bind (Vl b1 r2) fun r4 =>
  some ({ p0 with put := (DequePush.mk ({ p0.put.part with b := r4 } : DequePart) p0.put.v) } : WorkerWorker)
def Z7m (p0 : WorkerWorker) (b1 : CellsBank) : Option (WorkerWorker) :=
  Option.bind (Z7y p0 b1) fun r2 =>
  some ({ p0 with put := (DequePush.mk ({ p0.put.part with b := r2.put.part.b } : DequePart) p0.put.v) } : WorkerWorker)
def Z5t (p0 : WorkerWorker) : Option (Int) :=
  Option.bind (Re p0.put.part.l p0.put.part.w) fun r1 =>
  some r1
def Z6l (p0 : WorkerWorker) (b1 : CellsBank) : Option (WorkerWorker) :=
  Option.bind (Z5t p0) fun r2 =>
  Option.bind (Vl b1 r2) fun r4 =>
  some ({ p0 with put := (DequePush.mk ({ p0.put.part with t := r4 } : DequePart) p0.put.v) } : WorkerWorker)
def Z1a (p0 : WorkerWorker) (a0 : Bool) : Option (WorkerWorker) :=
  some ({ p0 with put := (DequePush.mk ({ p0.put.part with done := true, got := a0 } : DequePart) p0.put.v) } : WorkerWorker)
def Z74 (p0 : WorkerWorker) (b1 : CellsBank) : Option (WorkerWorker) :=
  Option.bind (Z6l p0 b1) fun r2 =>
  gd (i64ok (p0.put.part.b - r2.put.part.t)) <|
  if p0.put.part.l.Room ≤ (p0.put.part.b - r2.put.part.t) then
  (Option.bind (Z1a ({ p0 with put := (DequePush.mk ({ p0.put.part with t := r2.put.part.t } : DequePart) p0.put.v) } : WorkerWorker) false) fun r6 =>
  some ({ p0 with put := (DequePush.mk ({ p0.put.part with t := r2.put.part.t, done := r6.put.part.done, got := r6.put.part.got } : DequePart) p0.put.v) } : WorkerWorker))
  else
  some ({ p0 with put := (DequePush.mk ({ p0.put.part with t := r2.put.part.t } : DequePart) p0.put.v) } : WorkerWorker)
def Z62 (p0 : WorkerWorker) (a0 : Int) : Option (Int) :=
  Option.bind (Rx p0.put.part.l p0.put.part.w a0) fun r1 =>
  some r1
def Z5c (p0 : WorkerWorker) (b1 : CellsBank) : Option (CellsBank) :=
  Option.bind (Z62 p0 p0.put.part.b) fun r3 =>
  Option.bind (Ub b1 r3 p0.put.v) fun r5 =>
  some r5
def Z80 (p0 : WorkerWorker) (b1 : CellsBank) : Option (WorkerWorker × CellsBank) :=
  Option.bind (Z1w p0) fun r4 =>
  gd (i64ok (p0.put.part.b + 1)) <|
  Option.bind (Ub b1 r4 (p0.put.part.b + 1)) fun r7 =>
  Option.bind (Z1a p0 true) fun a0 =>
  some (({ p0 with put := (DequePush.mk ({ p0.put.part with done := a0.put.part.done, got := a0.put.part.got } : DequePart) p0.put.v) } : WorkerWorker), r7)
def Z4l (p0 : WorkerWorker) (b1 : CellsBank) : Option (Bool × WorkerWorker × CellsBank) :=
  Option.bind (Z6j p0) fun (r4, r5) =>
  if 0 ≤ r4 then
  (if r4 = 0 then
  (Option.bind (Z7m ({ p0 with put := (DequePush.mk ({ p0.put.part with at_ := r5.put.part.at_ } : DequePart) p0.put.v) } : WorkerWorker) b1) fun a2 =>
  some (p0.put.part.done, ({ p0 with put := (DequePush.mk ({ p0.put.part with at_ := r5.put.part.at_, b := a2.put.part.b } : DequePart) p0.put.v) } : WorkerWorker), b1))
  else
  if r4 = 1 then
  (Option.bind (Z74 ({ p0 with put := (DequePush.mk ({ p0.put.part with at_ := r5.put.part.at_ } : DequePart) p0.put.v) } : WorkerWorker) b1) fun a0 =>
  some (a0.put.part.done, ({ p0 with put := (DequePush.mk ({ p0.put.part with at_ := r5.put.part.at_, t := a0.put.part.t, done := a0.put.part.done, got := a0.put.part.got } : DequePart) p0.put.v) } : WorkerWorker), b1))
  else
  if r4 = 2 then
  (Option.bind (Z5c ({ p0 with put := (DequePush.mk ({ p0.put.part with at_ := r5.put.part.at_ } : DequePart) p0.put.v) } : WorkerWorker) b1) fun a3 =>
  some (p0.put.part.done, ({ p0 with put := (DequePush.mk ({ p0.put.part with at_ := r5.put.part.at_ } : DequePart) p0.put.v) } : WorkerWorker), a3))
  else
  if r4 = 3 then
  (Option.bind (Z80 ({ p0 with put := (DequePush.mk ({ p0.put.part with at_ := r5.put.part.at_ } : DequePart) p0.put.v) } : WorkerWorker) b1) fun (a1, a4) =>
  some (a1.put.part.done, ({ p0 with put := (DequePush.mk ({ p0.put.part with at_ := r5.put.part.at_, done := a1.put.part.done, got := a1.put.part.got } : DequePart) p0.put.v) } : WorkerWorker), a4))
  else
  none)
  else
  some (p0.put.part.done, ({ p0 with put := (DequePush.mk ({ p0.put.part with at_ := r5.put.part.at_ } : DequePart) p0.put.v) } : WorkerWorker), b1)
def Z5j (w0 : WorkerWorker) (b1 : CellsBank) : Option (WorkerWorker × CellsBank) :=
  Option.bind (Z4l w0 b1) fun (r4, r5, r6) =>
  if r4 = true then
  (some (({ w0 with at_ := 17, put := (DequePush.mk ({ r5.put.part with l := w0.put.part.l, w := w0.put.part.w, x := w0.put.part.x } : DequePart) w0.put.v), wakes := false } : WorkerWorker), r6))
  else
  some (({ w0 with put := (DequePush.mk ({ r5.put.part with l := w0.put.part.l, w := w0.put.part.w, x := w0.put.part.x } : DequePart) w0.put.v) } : WorkerWorker), r6)
def Z8x (w0 : WorkerWorker) (b1 : CellsBank) : Option (WorkerWorker × CellsBank) :=
  gd (i64ok (w0.low + 1)) <|
  gd (i64ok (w0.l.H + w0.u)) <|
  Option.bind (Ub b1 (w0.l.H + w0.u) (min (w0.low + 1) w0.c.N)) fun r6 =>
  Option.bind (Z1x ({ w0 with h := (min (w0.low + 1) w0.c.N) } : WorkerWorker) (Evt.mk 0 2 0 0 0 0 0)) fun r9 =>
  gd (i64ok (w0.lifts + 1)) <|
  Option.bind (Ko ({ w0 with h := (min (w0.low + 1) w0.c.N), lifts := (w0.lifts + 1), event := r9.event, has := r9.has } : WorkerWorker) (decide ((w0.lifts + 1) = w0.limit)) 16 17) fun a0 =>
  some (({ w0 with at_ := a0.at_, h := (min (w0.low + 1) w0.c.N), lifts := (w0.lifts + 1), event := r9.event, has := r9.has } : WorkerWorker), r6)
def Z9x (l0 : Layout) : Option (Unit) :=
  some ()
def Z9e (b0 : CellsBank) (c1 : Layout) : Option (Bool × CellsBank) :=
  Option.bind (Ub b0 c1.Ask 1) fun r3 =>
  some (false, r3)
def Z61 (a1 : CountAsk) (a0 : Layout) (b1 : CellsBank) : Option (Bool × CountAsk × CellsBank) :=
  if (!a1.o.done) = true then
  (Option.bind (Z9e b1 a0) fun (r5, r6) =>
  some (true, (CountAsk.mk (CountOnce.mk true r5)), r6))
  else
  some (true, a1, b1)
def Z8z (a0 : CountAsk) (a1 : Layout) (b1 : CellsBank) : Option (Bool × CountAsk × CellsBank) :=
  Option.bind (Z61 a0 a1 b1) fun (r4, r5, r6) =>
  some (r4, r5, r6)
def Z9l (w0 : WorkerWorker) (b1 : CellsBank) : Option (WorkerWorker × CellsBank) :=
  Option.bind (Z9x w0.l) fun _ =>
  Option.bind (Z8z (CountAsk.mk (CountOnce.mk false false)) w0.l b1) fun (r9, a1, a0) =>
  some (({ w0 with at_ := 17 } : WorkerWorker), a0)
def Z4t (w0 : WorkerWorker) (a1 : Bool) : Option (WorkerWorker) :=
  if a1 = true then
  (some ({ w0 with at_ := 18 } : WorkerWorker))
  else
  Option.bind (Z09 w0) fun a0 =>
  some ({ w0 with at_ := a0.at_, a := a0.a, target := a0.target } : WorkerWorker)
def Z77 (w0 : WorkerWorker) (b1 : CellsBank) : Option (WorkerWorker) :=
  Option.bind (Z1o w0.l) fun _ =>
  Option.bind (Z0z (CountAsked.mk (CountOnce.mk false false)) w0.l b1) fun (r7, r8) =>
  Option.bind (Z24 r8 w0.l) fun a0 =>
  if a0 = true then
  (some ({ w0 with at_ := 22 } : WorkerWorker))
  else
  if w0.c.N ≤ w0.h then
  (Z4t w0 true)
  else
  Z4t w0 (decide (w0.e = 0))
def Z4r (l0 : Layout) (v1 : Int) : Option (FlagsFree) :=
  gd (i64ok (l0.Flag + v1)) <|
  some (FlagsFree.mk (FlagsOnce.mk (l0.Flag + v1) false))
def Z4e (a0 : FlagsFree) : Option (Bool × FlagsFree) :=
  some ((!a0.once.done), (FlagsFree.mk (FlagsOnce.mk a0.once.cell true)))
def Z2v (f0 : FlagsFree) (b1 : CellsBank) : Option (Bool × FlagsFree × CellsBank) :=
  Option.bind (Z4e f0) fun (r4, r5) =>
  if r4 = true then
  (Option.bind (Ub b1 f0.once.cell 0) fun r8 =>
  some (true, (FlagsFree.mk (FlagsOnce.mk f0.once.cell r5.once.done)), r8))
  else
  some (true, (FlagsFree.mk (FlagsOnce.mk f0.once.cell r5.once.done)), b1)
def Z2c (w0 : WorkerWorker) (b1 : CellsBank) (a0 : Int) : Option (WorkerWorker × CellsBank) :=
  Option.bind (Z4r w0.l w0.u) fun r4 =>
  Option.bind (Z2v r4 b1) fun (r8, r9, a1) =>
  some (({ w0 with at_ := a0, holds := false } : WorkerWorker), a1)
def Z7e (w0 : WorkerWorker) (b1 : CellsBank) : Option (WorkerWorker × CellsBank) :=
  Option.bind (Z2c w0 b1 19) fun (r4, r5) =>
  some (({ w0 with at_ := r4.at_, holds := r4.holds } : WorkerWorker), r5)
def Z9m (w0 : WorkerWorker) (b1 : CellsBank) : Option (WorkerWorker) :=
  gd (i64ok (w0.l.Ex + w0.u)) <|
  Option.bind (Vl b1 (w0.l.Ex + w0.u)) fun r3 =>
  if 0 < r3 then
  (Option.bind (Ko ({ w0 with e := r3 } : WorkerWorker) (decide (w0.h < w0.c.N)) 20 21) fun r6 =>
  some ({ w0 with at_ := r6.at_, e := r3 } : WorkerWorker))
  else
  Option.bind (Ko ({ w0 with e := r3 } : WorkerWorker) false 20 21) fun r8 =>
  some ({ w0 with at_ := r8.at_, e := r3 } : WorkerWorker)
def Z8u (w0 : WorkerWorker) (b1 : CellsBank) : Option (WorkerWorker × CellsBank) :=
  Option.bind (Z1t w0.l w0.u) fun r4 =>
  Option.bind (Z2g r4 b1) fun (r8, r9, a2) =>
  Option.bind (Z0q (FlagsClaim.mk (FlagsOnce.mk r4.once.cell r9.once.done) r9.got)) fun a0 =>
  if a0 = true then
  (Option.bind (Z09 ({ w0 with holds := a0 } : WorkerWorker)) fun a1 =>
  some (({ w0 with at_ := a1.at_, holds := a0, a := a1.a, target := a1.target } : WorkerWorker), a2))
  else
  some (({ w0 with at_ := 21, holds := a0 } : WorkerWorker), a2)
def Z3j (l0 : Layout) : Option (Unit) :=
  Option.bind (Z05 l0 (-1)) fun _ =>
  some ()
def Z3o (a2 : CountDown) (a1 : Layout) (a0 : Int) (b1 : CellsBank) : Option (Bool × CountDown × CellsBank) :=
  if (!a2.o.done) = true then
  (Option.bind (Z0b b1 a1 a0) fun (r5, r6) =>
  some (true, (CountDown.mk (CountOnce.mk true r5)), r6))
  else
  some (true, a2, b1)
def Z50 (d0 : CountDown) (a1 : Layout) (a0 : Int) (b1 : CellsBank) : Option (Bool × CountDown × CellsBank) :=
  Option.bind (Z3o d0 a1 a0 b1) fun (r4, r5, r6) =>
  some (r4, r5, r6)
def Z1j (w0 : WorkerWorker) (b1 : CellsBank) : Option (CellsBank) :=
  Option.bind (Z3j w0.l) fun _ =>
  Option.bind (Z50 (CountDown.mk (CountOnce.mk false false)) w0.l (-1) b1) fun (a1, a2, a0) =>
  some a0
def Z7b (w0 : WorkerWorker) (b1 : CellsBank) : Option (WorkerWorker × CellsBank) :=
  Option.bind (Z1j w0 b1) fun r4 =>
  Option.bind (Lt w0) fun r7 =>
  some (({ w0 with at_ := r7.at_, pop := r7.pop } : WorkerWorker), r4)
def Z5d (w0 : WorkerWorker) (b1 : CellsBank) : Option (WorkerWorker × CellsBank) :=
  Option.bind (Z2c w0 b1 23) fun (r4, r5) =>
  some (({ w0 with at_ := r4.at_, holds := r4.holds } : WorkerWorker), r5)
def Z79 (w0 : WorkerWorker) (b1 : CellsBank) : Option (WorkerWorker × CellsBank) :=
  Option.bind (Z1j w0 b1) fun r4 =>
  Option.bind (Rs w0) fun r7 =>
  some (({ w0 with at_ := r7.at_, arrive := r7.arrive } : WorkerWorker), r4)
def Z6a (a0 : WorkerWorker) (b1 : CellsBank) : Option (Int × WorkerWorker) :=
  Option.bind (Vl b1 a0.arrive.l.Sense) fun r2 =>
  if r2 ≠ 0 then
  (some (1, ({ a0 with arrive := ({ a0.arrive with own := 0 } : BarrierArrive) } : WorkerWorker)))
  else
  some (1, ({ a0 with arrive := ({ a0.arrive with own := 1 } : BarrierArrive) } : WorkerWorker))
def Z8f (a0 : WorkerWorker) (b1 : CellsBank) : Option (Int × WorkerWorker × CellsBank) :=
  Option.bind (Kw b1 a0.arrive.l.Count (-1)) fun (r4, r5) =>
  if r4 = 0 then
  (some (2, ({ a0 with arrive := ({ a0.arrive with last := (decide (r4 = 0)) } : BarrierArrive) } : WorkerWorker), r5))
  else
  some (4, ({ a0 with arrive := ({ a0.arrive with last := (decide (r4 = 0)) } : BarrierArrive) } : WorkerWorker), r5)
def Z8j (a0 : WorkerWorker) (b1 : CellsBank) : Option (Int × CellsBank) :=
  Option.bind (Ub b1 a0.arrive.l.Count a0.arrive.l.Workers) fun r3 =>
  some (3, r3)
def Z7f (a0 : WorkerWorker) (b1 : CellsBank) : Option (Int × CellsBank) :=
  Option.bind (Ub b1 a0.arrive.l.Sense a0.arrive.own) fun r3 =>
  some (5, r3)
def Z7i (a0 : WorkerWorker) (b1 : CellsBank) : Option (Int) :=
  Option.bind (Vl b1 a0.arrive.l.Sense) fun r1 =>
  if r1 = a0.arrive.own then
  (some 5)
  else
  some 4
def Z5i (a0 : WorkerWorker) (b1 : CellsBank) : Option (Bool × WorkerWorker × CellsBank) :=
  if a0.arrive.next ≠ 5 then
  (if a0.arrive.next = 0 then
  (Option.bind (Z6a a0 b1) fun (a1, a6) =>
  some ((decide (a1 = 5)), ({ a0 with arrive := ({ a0.arrive with next := a1, own := a6.arrive.own } : BarrierArrive) } : WorkerWorker), b1))
  else
  if a0.arrive.next = 1 then
  (Option.bind (Z8f a0 b1) fun (a2, a7, a8) =>
  some ((decide (a2 = 5)), ({ a0 with arrive := ({ a0.arrive with next := a2, last := a7.arrive.last } : BarrierArrive) } : WorkerWorker), a8))
  else
  if a0.arrive.next = 2 then
  (Option.bind (Z8j a0 b1) fun (a3, a9) =>
  some ((decide (a3 = 5)), ({ a0 with arrive := ({ a0.arrive with next := a3 } : BarrierArrive) } : WorkerWorker), a9))
  else
  if a0.arrive.next = 3 then
  (Option.bind (Z7f a0 b1) fun (a4, b0) =>
  some ((decide (a4 = 5)), ({ a0 with arrive := ({ a0.arrive with next := a4 } : BarrierArrive) } : WorkerWorker), b0))
  else
  if a0.arrive.next = 4 then
  (Option.bind (Z7i a0 b1) fun a5 =>
  some ((decide (a5 = 5)), ({ a0 with arrive := ({ a0.arrive with next := a5 } : BarrierArrive) } : WorkerWorker), b1))
  else
  none)
  else
  some ((decide (a0.arrive.next = 5)), a0, b1)
def Z6k (w0 : WorkerWorker) (b1 : CellsBank) : Option (WorkerWorker × CellsBank) :=
  Option.bind (Z5i w0 b1) fun (r4, r5, r6) =>
  if r4 = true then
  (some (({ w0 with at_ := 25, arrive := ({ r5.arrive with l := w0.arrive.l } : BarrierArrive) } : WorkerWorker), r6))
  else
  some (({ w0 with arrive := ({ r5.arrive with l := w0.arrive.l } : BarrierArrive) } : WorkerWorker), r6)
def Xr (w0 : WorkerWorker) (b1 : CellsBank) : Option (Bool × WorkerWorker × CellsBank) :=
  Option.bind (Wv w0) fun r4 =>
  if r4 = true then
  (some (true, w0, b1))
  else
  if w0.at_ = 0 then
  (Option.bind (Z8p ({ w0 with has := false } : WorkerWorker) b1) fun (a3, e7) =>
  Option.bind (Wv ({ w0 with at_ := a3.at_, pop := (DequePop.mk ({ a3.pop.part with l := w0.pop.part.l, w := w0.pop.part.w } : DequePart)), steal := a3.steal, from_ := a3.from_, u := a3.u, holds := a3.holds, has := false } : WorkerWorker)) fun e8 =>
  some (e8, ({ w0 with at_ := a3.at_, pop := (DequePop.mk ({ a3.pop.part with l := w0.pop.part.l, w := w0.pop.part.w } : DequePart)), steal := a3.steal, from_ := a3.from_, u := a3.u, holds := a3.holds, has := false } : WorkerWorker), e7))
  else
  if w0.at_ = 1 then
  (none)
  else
  if w0.at_ = 2 then
  (Option.bind (Z72 ({ w0 with has := false } : WorkerWorker) b1) fun c1 =>
  Option.bind (Wv ({ w0 with at_ := c1.at_, arrive := c1.arrive, has := false } : WorkerWorker)) fun e9 =>
  some (e9, ({ w0 with at_ := c1.at_, arrive := c1.arrive, has := false } : WorkerWorker), b1))
  else
  if w0.at_ = 3 then
  (Option.bind (Z7x ({ w0 with has := false } : WorkerWorker) b1) fun b7 =>
  Option.bind (Wv ({ w0 with at_ := b7.at_, pop := b7.pop, arrive := b7.arrive, has := false } : WorkerWorker)) fun f0 =>
  some (f0, ({ w0 with at_ := b7.at_, pop := b7.pop, arrive := b7.arrive, has := false } : WorkerWorker), b1))
  else
  if w0.at_ = 4 then
  (Option.bind (Z7s ({ w0 with has := false } : WorkerWorker) b1) fun c2 =>
  Option.bind (Wv ({ w0 with at_ := c2.at_, h := c2.h, has := false } : WorkerWorker)) fun f1 =>
  some (f1, ({ w0 with at_ := c2.at_, h := c2.h, has := false } : WorkerWorker), b1))
  else
  if w0.at_ = 5 then
  (Option.bind (Z73 ({ w0 with has := false } : WorkerWorker) b1) fun b0 =>
  Option.bind (Wv ({ w0 with at_ := b0.at_, e := b0.e, has := false, a := b0.a, target := b0.target } : WorkerWorker)) fun f2 =>
  some (f2, ({ w0 with at_ := b0.at_, e := b0.e, has := false, a := b0.a, target := b0.target } : WorkerWorker), b1))
  else
  if w0.at_ = 6 then
  (Option.bind (Z5f ({ w0 with has := false } : WorkerWorker) b1) fun b8 =>
  Option.bind (Wv ({ w0 with at_ := b8.at_, has := false, a := b8.a, d := b8.d } : WorkerWorker)) fun f3 =>
  some (f3, ({ w0 with at_ := b8.at_, has := false, a := b8.a, d := b8.d } : WorkerWorker), b1))
  else
  if w0.at_ = 7 then
  (Option.bind (Z7k ({ w0 with has := false } : WorkerWorker) b1) fun b5 =>
  Option.bind (Wv ({ b5 with c := ({ w0.c with N := b5.c.N, S := b5.c.S, T := b5.c.T } : Csr) } : WorkerWorker)) fun f4 =>
  some (f4, ({ b5 with c := ({ w0.c with N := b5.c.N, S := b5.c.S, T := b5.c.T } : Csr) } : WorkerWorker), b1))
  else
  if w0.at_ = 8 then
  (Option.bind (Z5q ({ w0 with has := false } : WorkerWorker) b1) fun (b6, f5) =>
  Option.bind (Wv ({ w0 with at_ := b6.at_, event := b6.event, has := b6.has, d := b6.d } : WorkerWorker)) fun f6 =>
  some (f6, ({ w0 with at_ := b6.at_, event := b6.event, has := b6.has, d := b6.d } : WorkerWorker), f5))
  else
  if w0.at_ = 9 then
  (Option.bind (Z8s ({ w0 with has := false } : WorkerWorker) b1) fun (e6, f7) =>
  Option.bind (Wv ({ w0 with at_ := e6.at_, has := false } : WorkerWorker)) fun f8 =>
  some (f8, ({ w0 with at_ := e6.at_, has := false } : WorkerWorker), f7))
  else
  if w0.at_ = 10 then
  (Option.bind (Z5s ({ w0 with has := false } : WorkerWorker) b1) fun (c3, f9) =>
  Option.bind (Wv ({ w0 with at_ := c3.at_, e := c3.e, has := false } : WorkerWorker)) fun g0 =>
  some (g0, ({ w0 with at_ := c3.at_, e := c3.e, has := false } : WorkerWorker), f9))
  else
  if w0.at_ = 11 then
  (Option.bind (Z7j ({ w0 with has := false } : WorkerWorker) b1) fun (c4, g1) =>
  Option.bind (Wv ({ w0 with at_ := c4.at_, v := c4.v, has := false } : WorkerWorker)) fun g2 =>
  some (g2, ({ w0 with at_ := c4.at_, v := c4.v, has := false } : WorkerWorker), g1))
  else
  if w0.at_ = 12 then
  (Option.bind (Z7n ({ w0 with has := false } : WorkerWorker) b1) fun (c5, g3) =>
  Option.bind (Wv ({ w0 with at_ := c5.at_, wakes := c5.wakes, has := false } : WorkerWorker)) fun g4 =>
  some (g4, ({ w0 with at_ := c5.at_, wakes := c5.wakes, has := false } : WorkerWorker), g3))
  else
  if w0.at_ = 13 then
  (Option.bind (Z5x ({ w0 with has := false } : WorkerWorker) b1) fun (c6, g5) =>
  Option.bind (Wv ({ w0 with at_ := c6.at_, put := c6.put, has := false } : WorkerWorker)) fun g6 =>
  some (g6, ({ w0 with at_ := c6.at_, put := c6.put, has := false } : WorkerWorker), g5))
  else
  if w0.at_ = 14 then
  (Option.bind (Z5j ({ w0 with has := false } : WorkerWorker) b1) fun (b9, g7) =>
  Option.bind (Wv ({ w0 with at_ := b9.at_, put := (DequePush.mk ({ b9.put.part with l := w0.put.part.l, w := w0.put.part.w, x := w0.put.part.x } : DequePart) w0.put.v), wakes := b9.wakes, has := false } : WorkerWorker)) fun c7 =>
  some (c7, ({ w0 with at_ := b9.at_, put := (DequePush.mk ({ b9.put.part with l := w0.put.part.l, w := w0.put.part.w, x := w0.put.part.x } : DequePart) w0.put.v), wakes := b9.wakes, has := false } : WorkerWorker), g7))
  else
  if w0.at_ = 15 then
  (Option.bind (Z8x ({ w0 with has := false } : WorkerWorker) b1) fun (a0, c8) =>
  Option.bind (Wv ({ w0 with at_ := a0.at_, h := a0.h, lifts := a0.lifts, event := a0.event, has := a0.has } : WorkerWorker)) fun c9 =>
  some (c9, ({ w0 with at_ := a0.at_, h := a0.h, lifts := a0.lifts, event := a0.event, has := a0.has } : WorkerWorker), c8))
  else
  if w0.at_ = 16 then
  (Option.bind (Z9l ({ w0 with has := false } : WorkerWorker) b1) fun (c0, d0) =>
  Option.bind (Wv ({ w0 with at_ := c0.at_, has := false } : WorkerWorker)) fun d1 =>
  some (d1, ({ w0 with at_ := c0.at_, has := false } : WorkerWorker), d0))
  else
  if w0.at_ = 17 then
  (Option.bind (Z77 ({ w0 with has := false } : WorkerWorker) b1) fun a2 =>
  Option.bind (Wv ({ w0 with at_ := a2.at_, has := false, a := a2.a, target := a2.target } : WorkerWorker)) fun d2 =>
  some (d2, ({ w0 with at_ := a2.at_, has := false, a := a2.a, target := a2.target } : WorkerWorker), b1))
  else
  if w0.at_ = 18 then
  (Option.bind (Z7e ({ w0 with has := false } : WorkerWorker) b1) fun (a4, d3) =>
  Option.bind (Wv ({ w0 with at_ := a4.at_, holds := a4.holds, has := false } : WorkerWorker)) fun d4 =>
  some (d4, ({ w0 with at_ := a4.at_, holds := a4.holds, has := false } : WorkerWorker), d3))
  else
  if w0.at_ = 19 then
  (Option.bind (Z9m ({ w0 with has := false } : WorkerWorker) b1) fun a5 =>
  Option.bind (Wv ({ w0 with at_ := a5.at_, e := a5.e, has := false } : WorkerWorker)) fun d5 =>
  some (d5, ({ w0 with at_ := a5.at_, e := a5.e, has := false } : WorkerWorker), b1))
  else
  if w0.at_ = 20 then
  (Option.bind (Z8u ({ w0 with has := false } : WorkerWorker) b1) fun (a1, d6) =>
  Option.bind (Wv ({ w0 with at_ := a1.at_, holds := a1.holds, has := false, a := a1.a, target := a1.target } : WorkerWorker)) fun d7 =>
  some (d7, ({ w0 with at_ := a1.at_, holds := a1.holds, has := false, a := a1.a, target := a1.target } : WorkerWorker), d6))
  else
  if w0.at_ = 21 then
  (Option.bind (Z7b ({ w0 with has := false } : WorkerWorker) b1) fun (a6, d8) =>
  Option.bind (Wv ({ w0 with at_ := a6.at_, pop := a6.pop, has := false } : WorkerWorker)) fun d9 =>
  some (d9, ({ w0 with at_ := a6.at_, pop := a6.pop, has := false } : WorkerWorker), d8))
  else
  if w0.at_ = 22 then
  (Option.bind (Z5d ({ w0 with has := false } : WorkerWorker) b1) fun (a7, e0) =>
  Option.bind (Wv ({ w0 with at_ := a7.at_, holds := a7.holds, has := false } : WorkerWorker)) fun e1 =>
  some (e1, ({ w0 with at_ := a7.at_, holds := a7.holds, has := false } : WorkerWorker), e0))
  else
  if w0.at_ = 23 then
  (Option.bind (Z79 ({ w0 with has := false } : WorkerWorker) b1) fun (a8, e2) =>
  Option.bind (Wv ({ w0 with at_ := a8.at_, arrive := a8.arrive, has := false } : WorkerWorker)) fun e3 =>
  some (e3, ({ w0 with at_ := a8.at_, arrive := a8.arrive, has := false } : WorkerWorker), e2))
  else
  if w0.at_ = 24 then
  (Option.bind (Z6k ({ w0 with has := false } : WorkerWorker) b1) fun (a9, e4) =>
  Option.bind (Wv ({ w0 with at_ := a9.at_, arrive := ({ a9.arrive with l := w0.arrive.l } : BarrierArrive), has := false } : WorkerWorker)) fun e5 =>
  some (e5, ({ w0 with at_ := a9.at_, arrive := ({ a9.arrive with l := w0.arrive.l } : BarrierArrive), has := false } : WorkerWorker), e4))
  else
  none
end Go.Acq
namespace Go.Acq
open Go
structure Acequialaw16Phase where
  C : Csr
  L : Layout
  B : CellsBank
  W : WorkerWorker
  Dealt : List Int
  deriving DecidableEq
instance : Inhabited Acequialaw16Phase := ⟨⟨default, default, default, default, default⟩⟩
def Z2z (a0 n1 : Int) : Option ((Int) ⊕ (Int)) :=
  if n1 < a0 then
  (gd (i64ok (n1 * 2)) <|
  some (.inl (n1 * 2)))
  else
  some (.inr n1)
def Z6g (n4 : Int) : Option (Int) :=
  some n4
def Z4g (a0 : Int) : Option (Int) :=
  Option.bind (Wb (fun s => Z2z a0 s) Xn 1) fun p1_0_0 => Z6g p1_0_0
def Je (n0 : Int) (c1 : Layout) : Option (Int × Layout) :=
  gd (i64ok (c1.Size + n0)) <|
  gd (i64ok ((c1.Size + n0) - n0)) <|
  some (((c1.Size + n0) - n0), ({ c1 with Size := (c1.Size + n0) } : Layout))
def Z4z (a1 a2 a0 : Int) (b5 : Bool) : Option (Layout × Int) :=
  if b5 = true then
  (some ((Layout.mk 0 0 0 0 0 0 0 0 0 0 0 0 0 0), 2))
  else
  Option.bind (Z4g a1) fun a3 =>
  Option.bind (Je a2 (Layout.mk a1 a2 a0 a3 0 0 0 0 0 0 0 0 0 0)) fun (a4, b6) =>
  Option.bind (Je a1 (Layout.mk a1 a2 a0 a3 a4 0 0 0 0 0 0 0 0 b6.Size)) fun (a5, b7) =>
  Option.bind (Je a1 (Layout.mk a1 a2 a0 a3 a4 0 0 0 0 0 0 0 0 b7.Size)) fun (a6, b8) =>
  Option.bind (Je a1 (Layout.mk a1 a2 a0 a3 a4 0 0 0 0 0 0 0 0 b8.Size)) fun (a7, b9) =>
  Option.bind (Je 1 (Layout.mk a1 a2 a0 a3 a4 a5 a6 a7 0 0 0 0 0 b9.Size)) fun (a8, c0) =>
  Option.bind (Je 1 (Layout.mk a1 a2 a0 a3 a4 a5 a6 a7 0 0 0 0 0 c0.Size)) fun (a9, c1) =>
  Option.bind (Je 1 (Layout.mk a1 a2 a0 a3 a4 a5 a6 a7 0 0 0 0 0 c1.Size)) fun (b0, c2) =>
  Option.bind (Je 1 (Layout.mk a1 a2 a0 a3 a4 a5 a6 a7 0 0 0 0 0 c2.Size)) fun (b1, c3) =>
  gd (i64ok (a3 + 2)) <|
  gd (i64ok (a0 * (a3 + 2))) <|
  Option.bind (Je (a0 * (a3 + 2)) (Layout.mk a1 a2 a0 a3 a4 a5 a6 a7 a8 a9 b0 b1 0 c3.Size)) fun (c4, c5) =>
  some ((Layout.mk a1 a2 a0 a3 a4 a5 a6 a7 a8 a9 b0 b1 c4 c5.Size), 0)
def Z3y (a1 a2 a0 : Int) (a3 : Bool) : Option (Layout × Int) :=
  if a3 = true then
  (Z4z a1 a2 a0 true)
  else
  Z4z a1 a2 a0 (decide (64 < a0))
def Z4v (a1 a2 a0 : Int) (b8 : Bool) : Option (Layout × Int) :=
  if b8 = true then
  (Z3y a1 a2 a0 true)
  else
  Z3y a1 a2 a0 (decide (a0 < 1))
def Z4m (a1 a2 a0 : Int) (b6 : Bool) : Option (Layout × Int) :=
  if b6 = true then
  (Z4v a1 a2 a0 true)
  else
  Z4v a1 a2 a0 (decide (32768 < a2))
def Z2y (a1 a2 a0 : Int) (b4 : Bool) : Option (Layout × Int) :=
  if b4 = true then
  (Z4m a1 a2 a0 true)
  else
  Z4m a1 a2 a0 (decide (a2 < 0))
def Z2p (a0 a2 a1 : Int) : Option (Layout × Int) :=
  if a0 < 0 then
  (Z2y a0 a2 a1 true)
  else
  Z2y a0 a2 a1 (decide (4096 < a0))
def Z32 (n0 : Int) (x2 : Bool) : Option (CellsBank × Int) :=
  if x2 = true then
  (none)
  else
  gd (mkok n0) <|
  some ((CellsBank.mk (List.replicate n0.toNat (0 : Int))), 0)
def Z27 (n0 : Int) : Option (CellsBank × Int) :=
  if n0 < 0 then
  (Z32 n0 true)
  else
  Z32 n0 (decide (524288 < n0))
def Z3n (c0 : Csr) (l1 : Layout) (a1 a0 : Int) (a3 : Bool) : Option (WorkerWorker × Int) :=
  if a3 = true then
  (none)
  else
  Option.bind (Lt (WorkerWorker.mk c0 l1 a1 a0 0 (DequePop.mk (DequePart.mk (Layout.mk 0 0 0 0 0 0 0 0 0 0 0 0 0 0) 0 0 0 0 0 false false)) (DequeSteal.mk (DequePart.mk (Layout.mk 0 0 0 0 0 0 0 0 0 0 0 0 0 0) 0 0 0 0 0 false false) false) (DequePush.mk (DequePart.mk (Layout.mk 0 0 0 0 0 0 0 0 0 0 0 0 0 0) 0 0 0 0 0 false false) 0) (BarrierArrive.mk (Layout.mk 0 0 0 0 0 0 0 0 0 0 0 0 0 0) 0 0 false) 0 0 0 0 0 false false 0 (Evt.mk 0 0 0 0 0 0 0) false 0 0 0 0 0)) fun a2 =>
  some ((WorkerWorker.mk c0 l1 a1 a0 a2.at_ a2.pop (DequeSteal.mk (DequePart.mk (Layout.mk 0 0 0 0 0 0 0 0 0 0 0 0 0 0) 0 0 0 0 0 false false) false) (DequePush.mk (DequePart.mk (Layout.mk 0 0 0 0 0 0 0 0 0 0 0 0 0 0) 0 0 0 0 0 false false) 0) (BarrierArrive.mk (Layout.mk 0 0 0 0 0 0 0 0 0 0 0 0 0 0) 0 0 false) 0 0 0 0 0 false false 0 (Evt.mk 0 0 0 0 0 0 0) false 0 0 0 0 0), 0)
def Z2s (c0 : Csr) (l1 : Layout) (a1 a0 : Int) (a2 : Bool) : Option (WorkerWorker × Int) :=
  if a2 = true then
  (Z3n c0 l1 a1 a0 true)
  else
  Z3n c0 l1 a1 a0 (decide (a0 < 1))
def Z47 (c0 : Csr) (l1 : Layout) (a1 a0 : Int) (b8 : Bool) : Option (WorkerWorker × Int) :=
  if b8 = true then
  (Z2s c0 l1 a1 a0 true)
  else
  Z2s c0 l1 a1 a0 (decide (l1.Workers ≤ a1))
def Z38 (c0 : Csr) (l1 : Layout) (a1 a0 : Int) (b6 : Bool) : Option (WorkerWorker × Int) :=
  if b6 = true then
  (Z47 c0 l1 a1 a0 true)
  else
  Z47 c0 l1 a1 a0 (decide (a1 < 0))
def Z6i (c0 : Csr) (l1 : Layout) (a1 a0 : Int) : Option (WorkerWorker × Int) :=
  if l1.Verts ≠ c0.N then
  (Z38 c0 l1 a1 a0 true)
  else
  Z38 c0 l1 a1 a0 (decide (l1.Arcs ≠ (c0.Head.length : Int)))
def Z58 (r5 : Csr) (a3 : Layout) (a1 : List Int) (a0 : Int) : Option ((List Int × Int) ⊕ (List Int)) :=
  if a0 < (r5.Cap.length : Int) then
  (gd (inb a0 r5.Cap.length) <|
  gd (i64ok (a3.Res + a0)) <|
  Option.bind (Kw (CellsBank.mk a1) (a3.Res + a0) (r5.Cap.getD a0.toNat 0)) fun (a4, a2) =>
  gd (i64ok (a0 + 1)) <|
  some (.inl (a2.l, (a0 + 1))))
  else
  some (.inr a1)
def Z3a (n0 : Net) (r5 : Csr) (a1 : Layout) (a2 : List Int) (a0 : Int) : Option ((List Int × Int) ⊕ (List Int)) :=
  gd (i64ok (n0.S + 1)) <|
  gd (inb (n0.S + 1) r5.First.length) <|
  if a0 < (r5.First.getD (n0.S + 1).toNat 0) then
  (gd (inb a0 r5.Cap.length) <|
  gd (i64ok (a1.Res + a0)) <|
  Option.bind (Ub (CellsBank.mk a2) (a1.Res + a0) 0) fun a3 =>
  gd (inb a0 r5.Rev.length) <|
  gd (i64ok (a1.Res + (r5.Rev.getD a0.toNat 0))) <|
  Option.bind (Kw a3 (a1.Res + (r5.Rev.getD a0.toNat 0)) (r5.Cap.getD a0.toNat 0)) fun (a7, a4) =>
  gd (i64ok (a1.Ex + n0.S)) <|
  gd (i64ok (-(r5.Cap.getD a0.toNat 0))) <|
  Option.bind (Kw a4 (a1.Ex + n0.S) (-(r5.Cap.getD a0.toNat 0))) fun (a8, a5) =>
  gd (inb a0 r5.Head.length) <|
  gd (i64ok (a1.Ex + (r5.Head.getD a0.toNat 0))) <|
  Option.bind (Kw a5 (a1.Ex + (r5.Head.getD a0.toNat 0)) (r5.Cap.getD a0.toNat 0)) fun (a9, a6) =>
  gd (i64ok (a0 + 1)) <|
  some (.inl (a6.l, (a0 + 1))))
  else
  some (.inr a2)
def Rz (a4 : Layout) (a2 a0 : List Int) (a1 : Int) (a5 : Bool) : Option ((List Int × List Int × Int) ⊕ (List Int × List Int)) :=
  if a5 = true then
  (Option.bind (Rt a4 ((a0.length : Int).tmod 1)) fun a6 =>
  Option.bind (Vl (CellsBank.mk a2) a6) fun a3 =>
  Option.bind (Rx a4 ((a0.length : Int).tmod 1) a3) fun a7 =>
  Option.bind (Ub (CellsBank.mk a2) a7 a1) fun a8 =>
  Option.bind (Rt a4 ((a0.length : Int).tmod 1)) fun a9 =>
  gd (i64ok (a3 + 1)) <|
  Option.bind (Ub a8 a9 (a3 + 1)) fun b0 =>
  gd (i64ok (a4.Flag + a1)) <|
  Option.bind (Ub b0 (a4.Flag + a1) 1) fun b1 =>
  gd (apok (a0 ++ ([a1])).length 8) <|
  gd (i64ok (a1 + 1)) <|
  some (.inl (b1.l, (a0 ++ ([a1])), (a1 + 1))))
  else
  gd (i64ok (a1 + 1)) <|
  some (.inl (a2, a0, (a1 + 1)))
def Z4f (n0 : Net) (a3 : Layout) (a1 a0 : List Int) (a2 : Int) : Option ((List Int × List Int × Int) ⊕ (List Int × List Int)) :=
  if a2 < n0.N then
  (if a2 ≠ n0.S then
  (if a2 ≠ n0.T then
  (gd (i64ok (a3.Ex + a2)) <|
  Option.bind (Vl (CellsBank.mk a1) (a3.Ex + a2)) fun a4 =>
  Rz a3 a1 a0 a2 (decide (0 < a4)))
  else
  Rz a3 a1 a0 a2 false)
  else
  Rz a3 a1 a0 a2 false)
  else
  some (.inr (a1, a0))
def Z7p (r5 : Csr) (a3 : Layout) (a0 : List Int) (a2 : CellsBank) (a1 : WorkerWorker) : Option (Acequialaw16Phase × Bool) :=
  some ((Acequialaw16Phase.mk r5 a3 a2 ({ a1 with c := ({ r5 with N := a1.c.N, S := a1.c.S, T := a1.c.T } : Csr) } : WorkerWorker) a0), true)
def Z9j (a2 : Int) (r5 : Csr) (a4 : Layout) (a3 a0 : List Int) : Option (Acequialaw16Phase × Bool) :=
  Option.bind (Ub (CellsBank.mk a3) a4.Pending (a0.length : Int)) fun a5 =>
  Option.bind (Ub a5 a4.Count 1) fun a6 =>
  Option.bind (Z6i r5 a4 0 a2) fun (a1, a7) =>
  if a7 ≠ 0 then
  (none)
  else
  gd (apok 1 8) <|
  Z7p r5 a4 a0 a6 ({ a1 with c := ({ r5 with N := a1.c.N, S := a1.c.S, T := a1.c.T } : Csr) } : WorkerWorker)
def Z8m (n0 : Net) (a0 : Int) (r5 : Csr) (a2 : Layout) (a1 : List Int) : Option (Acequialaw16Phase × Bool) :=
  gd (i64ok (a2.H + n0.S)) <|
  Option.bind (Ub (CellsBank.mk a1) (a2.H + n0.S) n0.N) fun a3 =>
  Option.bind (Wb (fun s => Z4f n0 a2 s.1 s.2.1 s.2.2) Xn (a3.l, [], 0)) fun (p9_0_0, p9_0_1) => Z9j a0 r5 a2 p9_0_0 p9_0_1
def Z9t (n0 : Net) (a0 : Int) (r5 : Csr) (a2 : Layout) (a1 : List Int) : Option (Acequialaw16Phase × Bool) :=
  gd (inb n0.S r5.First.length) <|
  Option.bind (Wb (fun s => Z3a n0 r5 a2 s.1 s.2) Xn (a1, (r5.First.getD n0.S.toNat 0))) fun p7_0_0 => Z8m n0 a0 r5 a2 p7_0_0
def Z3i (n0 : Net) (a0 : Int) (r5 : Csr) (a1 : Layout) (a2 : CellsBank) (a3 : Bool) : Option (Acequialaw16Phase × Bool) :=
  if a3 = true then
  (none)
  else
  Option.bind (Wb (fun s => Z58 r5 a1 s.1 s.2) Xn (a2.l, 0)) fun p5_0_0 => Z9t n0 a0 r5 a1 p5_0_0
def Z46 (n0 : Net) (a0 : Int) (r5 : Csr) (a1 : Layout) (a2 : CellsBank) (a3 : Bool) : Option (Acequialaw16Phase × Bool) :=
  if a3 = true then
  (Z3i n0 a0 r5 a1 a2 true)
  else
  Z3i n0 a0 r5 a1 a2 (decide (a1.Workers ≠ 1))
def Z2h (n0 : Net) (a0 : Int) (r5 : Csr) (a1 : Layout) (a2 : CellsBank) (a3 : Bool) : Option (Acequialaw16Phase × Bool) :=
  if a3 = true then
  (Z46 n0 a0 r5 a1 a2 true)
  else
  gd (i64ok (n0.N + 1)) <|
  Z46 n0 a0 r5 a1 a2 (decide ((r5.First.length : Int) ≠ (n0.N + 1)))
def Z2j (n0 : Net) (a0 : Int) (r5 : Csr) (a1 : Layout) (a2 : CellsBank) (a3 : Int) (a4 : Bool) : Option (Acequialaw16Phase × Bool) :=
  if a4 = true then
  (Z2h n0 a0 r5 a1 a2 true)
  else
  Z2h n0 a0 r5 a1 a2 (decide (a3 ≠ 0))
def Z1z (n0 : Net) (a0 : Int) : Option (Acequialaw16Phase × Bool) :=
  Option.bind (Z3x n0) fun (r5, r6) =>
  Option.bind (Z2p r5.N (r5.Head.length : Int) 1) fun (a1, a4) =>
  Option.bind (Z27 a1.Size) fun (a2, a3) =>
  if r6 ≠ 0 then
  (Z2j n0 a0 r5 a1 a2 a3 true)
  else
  Z2j n0 a0 r5 a1 a2 a3 (decide (a4 ≠ 0))
def Z8l (n0 : Net) (a0 : Int) : Option (Net × Acequialaw16Phase × Bool) :=
  Option.bind (Z3p n0 7 14) fun r7 =>
  gd (i64ok 0) <|
  gd (i64ok (a0.tmod 40)) <|
  gd (i64ok (1 + (a0.tmod 40))) <|
  Option.bind (Z1z r7 (1 + (a0.tmod 40))) fun (a1, a2) =>
  some (r7, ({ a1 with W := ({ a1.W with c := ({ a1.C with N := a1.W.c.N, S := a1.W.c.S, T := a1.W.c.T } : Csr) } : WorkerWorker) } : Acequialaw16Phase), a2)
def Z3r (w0 : WorkerWorker) (x6 : Bool) : Option (Evt × Bool) :=
  if x6 = true then
  (some ((Evt.mk 0 0 0 0 0 0 0), false))
  else
  some (w0.event, true)
def Z19 (w0 : WorkerWorker) : Option (Evt × Bool) :=
  Option.bind (Z04 w0) fun r3 =>
  if r3 = true then
  (Z3r w0 true)
  else
  Z3r w0 (!w0.has)
def Z0w (c1 : Acequialaw16Phase) (c3 : List Int) (a0 a1 a2 : Int) : Option ((Int × Int) ⊕ (Int)) :=
  if 0 < a2 then
  (gd (inb a1 c1.C.Head.length) <|
  gd (inb (c1.C.Head.getD a1.toNat 0) c3.length) <|
  gd (i64ok (a1 + 1)) <|
  some (.inl ((min a0 (c3.getD (c1.C.Head.getD a1.toNat 0).toNat 0)), (a1 + 1))))
  else
  gd (i64ok (a1 + 1)) <|
  some (.inl (a0, (a1 + 1)))
def Lr (c1 : Acequialaw16Phase) (c3 : List Int) (r3 : Evt) (a0 a2 a1 : Int) (a3 : Bool) : Option ((Int × Int) ⊕ (Int)) :=
  if a3 = true then
  (gd (i64ok (a1 + r3.D)) <|
  Z0w c1 c3 a0 a2 (a1 + r3.D))
  else
  Z0w c1 c3 a0 a2 a1
def Z1p (c1 : Acequialaw16Phase) (c3 : List Int) (r3 : Evt) (a0 a1 : Int) : Option ((Int × Int) ⊕ (Int)) :=
  gd (i64ok (r3.U + 1)) <|
  gd (inb (r3.U + 1) c1.C.First.length) <|
  if a1 < (c1.C.First.getD (r3.U + 1).toNat 0) then
  (gd (i64ok (c1.L.Res + a1)) <|
  Option.bind (Vl c1.B (c1.L.Res + a1)) fun a2 =>
  if r3.What = 1 then
  (Lr c1 c3 r3 a0 a1 a2 (decide (a1 = r3.Arc)))
  else
  Lr c1 c3 r3 a0 a1 a2 false)
  else
  some (.inr a0)
def Z3q (c1 : Acequialaw16Phase) (c3 : List Int) (r3 : Evt) (a0 : Int) : Option (Bool × List Int) :=
  if a0 ≠ r3.Low then
  (some (false, c3))
  else
  if r3.What = 2 then
  (gd (inb r3.U c3.length) <|
  some (true, (c3.set r3.U.toNat r3.H)))
  else
  gd (inb r3.Arc c1.C.Head.length) <|
  gd (inb (c1.C.Head.getD r3.Arc.toNat 0) c3.length) <|
  if (c3.getD (c1.C.Head.getD r3.Arc.toNat 0).toNat 0) = a0 then
  (gd (i64ok (a0 + 1)) <|
  some ((decide (r3.H = (a0 + 1))), c3))
  else
  some (false, c3)
def Z41 (k0 : Int) (c1 : Acequialaw16Phase) (c2 : Net) (c3 : List Int) : Option (Bool × List Int) :=
  Option.bind (Z19 c1.W) fun (r3, r4) =>
  if (!r4) = true then
  (some (true, c3))
  else
  gd (i64ok (2 * c2.N)) <|
  gd (inb r3.U c1.C.First.length) <|
  Option.bind (Wb (fun s => Z1p c1 c3 r3 s.1 s.2) Xn ((2 * c2.N), (c1.C.First.getD r3.U.toNat 0))) fun p1_0_0 => Z3q c1 c3 r3 p1_0_0
def Z2w (p0 : Acequialaw16Phase) (p0f3eq12 : WorkerWorker) (a0 : Bool) (a1 : Int) : Option ((Bool × Int) ⊕ (Bool)) :=
  if a1 < 1 then
  (gd (inb a1 1) <|
  if a0 = true then
  (Option.bind (Wv ({ p0f3eq12 with c := ({ p0.W.c with N := p0f3eq12.c.N, S := p0f3eq12.c.S, T := p0f3eq12.c.T } : Csr) } : WorkerWorker)) fun a2 =>
  gd (i64ok (a1 + 1)) <|
  some (.inl (a2, (a1 + 1))))
  else
  gd (i64ok (a1 + 1)) <|
  some (.inl (false, (a1 + 1))))
  else
  some (.inr a0)
def Z2r (p0 : Acequialaw16Phase) (a2 : Int) (a0 a1 : List Int) (p0f3eq50 : WorkerWorker) : Option ((List Int × List Int × WorkerWorker × Int) ⊕ ((Bool × CellsBank × WorkerWorker × List Int) ⊕ (List Int × WorkerWorker × List Int))) :=
  gd (i64ok (a2 + 1)) <|
  some (.inl (a0, a1, ({ p0f3eq50 with c := ({ p0.W.c with N := p0f3eq50.c.N, S := p0f3eq50.c.S, T := p0f3eq50.c.T } : Csr) } : WorkerWorker), (a2 + 1)))
def Z5b (p0 : Acequialaw16Phase) (a2 a0 : List Int) (p0f3eq12 : WorkerWorker) (a3 : Int) (a1 : Bool) : Option ((List Int × List Int × WorkerWorker × Int) ⊕ ((Bool × CellsBank × WorkerWorker × List Int) ⊕ (List Int × WorkerWorker × List Int))) :=
  if a1 = true then
  (some (.inr (.inl (true, (CellsBank.mk a0), ({ p0f3eq12 with c := ({ p0.W.c with N := p0f3eq12.c.N, S := p0f3eq12.c.S, T := p0f3eq12.c.T } : Csr) } : WorkerWorker), a2))))
  else
  Z2r p0 a3 a2 a0 ({ p0f3eq12 with c := ({ p0.W.c with N := p0f3eq12.c.N, S := p0f3eq12.c.S, T := p0f3eq12.c.T } : Csr) } : WorkerWorker)
def Z7c (p0 a2 : Acequialaw16Phase) (a1 : Net) (a6 a3 : List Int) (p0f3eq12 : WorkerWorker) (a7 Ki : Int) : Option ((List Int × List Int × WorkerWorker × Int) ⊕ ((Bool × CellsBank × WorkerWorker × List Int) ⊕ (List Int × WorkerWorker × List Int))) :=
  gd (inb Ki 1) <|
  Option.bind (Xr ({ p0f3eq12 with c := ({ p0.W.c with N := p0f3eq12.c.N, S := p0f3eq12.c.S, T := p0f3eq12.c.T } : Csr) } : WorkerWorker) (CellsBank.mk a3)) fun (a9, a0, a4) =>
  Option.bind (Z41 Ki ({ a2 with B := a4, W := ({ a0 with c := ({ p0.W.c with N := a0.c.N, S := a0.c.S, T := a0.c.T } : Csr) } : WorkerWorker) } : Acequialaw16Phase) a1 a6) fun (a8, a5) =>
  if (!a8) = true then
  (some (.inr (.inl (false, a4, ({ a0 with c := ({ p0.W.c with N := a0.c.N, S := a0.c.S, T := a0.c.T } : Csr) } : WorkerWorker), a5))))
  else
  Z2r p0 a7 a5 a4.l ({ a0 with c := ({ p0.W.c with N := a0.c.N, S := a0.c.S, T := a0.c.T } : Csr) } : WorkerWorker)
def Z12 (p0 a1 : Acequialaw16Phase) (a0 : Net) (a3 a2 : List Int) (p0f3eq12 : WorkerWorker) (a4 Ki : Int) : Option ((List Int × List Int × WorkerWorker × Int) ⊕ ((Bool × CellsBank × WorkerWorker × List Int) ⊕ (List Int × WorkerWorker × List Int))) :=
  gd (inb Ki 1) <|
  Option.bind (Wv ({ p0f3eq12 with c := ({ p0.W.c with N := p0f3eq12.c.N, S := p0f3eq12.c.S, T := p0f3eq12.c.T } : Csr) } : WorkerWorker)) fun a5 =>
  if a5 = true then
  (Option.bind (Wb (fun s => Z2w p0 p0f3eq12 s.1 s.2) Xn (true, 0)) fun p3_0_0 => Z5b p0 a3 a2 p0f3eq12 a4 p3_0_0)
  else
  Z7c p0 a1 a0 a3 a2 p0f3eq12 a4 Ki
def Z34 (p0 : Acequialaw16Phase) (a0 : List Int) (a5 : Int) (a2 : Acequialaw16Phase) (a1 : Net) (a6 a4 : List Int) (p0f3eq12 : WorkerWorker) (a3 : Int) : Option ((List Int × List Int × WorkerWorker × Int) ⊕ ((Bool × CellsBank × WorkerWorker × List Int) ⊕ (List Int × WorkerWorker × List Int))) :=
  if a3 < a5 then
  (if a3 < (a0.length : Int) then
  (gd (inb a3 a0.length) <|
  gd (i64ok (a0.getD a3.toNat 0)) <|
  Z12 p0 a2 a1 a6 a4 p0f3eq12 a3 ((a0.getD a3.toNat 0).tmod 1))
  else
  Z12 p0 a2 a1 a6 a4 p0f3eq12 a3 (a3.tmod 1))
  else
  some (.inr (.inr (a4, ({ p0f3eq12 with c := ({ p0.W.c with N := p0f3eq12.c.N, S := p0f3eq12.c.S, T := p0f3eq12.c.T } : Csr) } : WorkerWorker), a6)))
def Z83 (p0 : Acequialaw16Phase) (a0 : List Int) (p0f3eq54 : WorkerWorker) (a1 : List Int) : Option (Bool × CellsBank × WorkerWorker × List Int) :=
  some (true, (CellsBank.mk a0), ({ p0f3eq54 with c := ({ p0.W.c with N := p0f3eq54.c.N, S := p0f3eq54.c.S, T := p0f3eq54.c.T } : Csr) } : WorkerWorker), a1)
def Z3c (p0 : Acequialaw16Phase) (a3 : List Int) (a4 : Int) (a2 : Acequialaw16Phase) (a1 : Net) (a0 : List Int) : Option (Bool × CellsBank × WorkerWorker × List Int) :=
  Option.bind (Wb (fun s => Z34 p0 a3 a4 a2 a1 s.1 s.2.1 s.2.2.1 s.2.2.2) Xn (a0, p0.B.l, p0.W, 0)) fun o => match o with | .inl (p1_0_0, p1_0_1, p1_0_2, p1_0_3) => (some (p1_0_0, p1_0_1, p1_0_2, p1_0_3)) | .inr (p1_1_0, p1_1_1, p1_1_2) => (Z83 p0 p1_1_0 p1_1_1 p1_1_2)
def Zby (w0 : WorkerWorker) : Option (Int) :=
  Option.bind (Z04 w0) fun r1 =>
  if r1 = true then
  (some 0)
  else
  some w0.lifts
def Z9q (r3 : Acequialaw16Phase) (a4 : List Int) (a3 : WorkerWorker) (a2 : Int) (a0 : List Evt) : Option ((List Int × WorkerWorker × Int × List Evt) ⊕ (List Int × WorkerWorker × List Evt)) :=
  if a2 < 200 then
  (Option.bind (Xr ({ a3 with c := ({ r3.C with N := a3.c.N, S := a3.c.S, T := a3.c.T } : Csr) } : WorkerWorker) (CellsBank.mk a4)) fun (a7, a1, a5) =>
  if (!a7) = true then
  (gd (i64ok (a2 + 1)) <|
  Option.bind (Z19 ({ a1 with c := ({ r3.C with N := a1.c.N, S := a1.c.S, T := a1.c.T } : Csr) } : WorkerWorker)) fun (a6, a8) =>
  if a8 = true then
  (gd (apok (a0 ++ ([a6])).length 56) <|
  some (.inl (a5.l, ({ a1 with c := ({ r3.C with N := a1.c.N, S := a1.c.S, T := a1.c.T } : Csr) } : WorkerWorker), (a2 + 1), (a0 ++ ([a6])))))
  else
  some (.inl (a5.l, ({ a1 with c := ({ r3.C with N := a1.c.N, S := a1.c.S, T := a1.c.T } : Csr) } : WorkerWorker), (a2 + 1), a0)))
  else
  some (.inr (a5.l, ({ a1 with c := ({ r3.C with N := a1.c.N, S := a1.c.S, T := a1.c.T } : Csr) } : WorkerWorker), a0)))
  else
  some (.inr (a4, ({ a3 with c := ({ r3.C with N := a3.c.N, S := a3.c.S, T := a3.c.T } : Csr) } : WorkerWorker), a0))
def Z98 (a0 : Bool) : Option (Bool) :=
  some a0
def Z9k (r3 : Acequialaw16Phase) (a0 : List Int) (a1 : Bool) : Option (Bool) :=
  if a1 = true then
  (gd (i64ok (r3.L.Flag + 1)) <|
  Option.bind (Vl (CellsBank.mk a0) (r3.L.Flag + 1)) fun a2 =>
  Z98 (decide (a2 = 0)))
  else
  Z98 false
def Z68 (r3 : Acequialaw16Phase) (a0 : List Int) (a1 : Bool) : Option (Bool) :=
  if a1 = true then
  (Option.bind (Vl (CellsBank.mk a0) r3.L.Pending) fun a2 =>
  Z9k r3 a0 (decide (a2 = 0)))
  else
  Z9k r3 a0 false
def Z65 (r3 : Acequialaw16Phase) (a0 : List Int) (a1 : Bool) : Option (Bool) :=
  if a1 = true then
  (gd (i64ok (r3.L.Ex + 1)) <|
  Option.bind (Vl (CellsBank.mk a0) (r3.L.Ex + 1)) fun a2 =>
  Z68 r3 a0 (decide (a2 = 2)))
  else
  Z68 r3 a0 false
def Z9o (r3 : Acequialaw16Phase) (a0 : List Int) (a1 : Bool) : Option (Bool) :=
  if a1 = true then
  (gd (i64ok (r3.L.Ex + 2)) <|
  Option.bind (Vl (CellsBank.mk a0) (r3.L.Ex + 2)) fun a2 =>
  Z65 r3 a0 (decide (a2 = 3)))
  else
  Z65 r3 a0 false
def Zat (r3 : Acequialaw16Phase) (a2 : List Int) (a1 : WorkerWorker) (a0 : List Evt) : Option (Bool) :=
  if (a0.length : Int) ≠ 3 then
  (some false)
  else
  gd (inb 0 a0.length) <|
  if (!decide (([(a0.getD (0 : Int).toNat default).Who, (a0.getD (0 : Int).toNat default).What, (a0.getD (0 : Int).toNat default).U, (a0.getD (0 : Int).toNat default).Arc, (a0.getD (0 : Int).toNat default).D, (a0.getD (0 : Int).toNat default).H, (a0.getD (0 : Int).toNat default).Low] : List Int) = [0, 2, 1, 0, 0, 1, 0])) = true then
  (some false)
  else
  gd (inb 1 a0.length) <|
  if (!decide (([(a0.getD (1 : Int).toNat default).Who, (a0.getD (1 : Int).toNat default).What, (a0.getD (1 : Int).toNat default).U, (a0.getD (1 : Int).toNat default).Arc, (a0.getD (1 : Int).toNat default).D, (a0.getD (1 : Int).toNat default).H, (a0.getD (1 : Int).toNat default).Low] : List Int) = [0, 1, 1, 2, 3, 1, 0])) = true then
  (some false)
  else
  gd (inb 2 a0.length) <|
  if (!decide (([(a0.getD (2 : Int).toNat default).Who, (a0.getD (2 : Int).toNat default).What, (a0.getD (2 : Int).toNat default).U, (a0.getD (2 : Int).toNat default).Arc, (a0.getD (2 : Int).toNat default).D, (a0.getD (2 : Int).toNat default).H, (a0.getD (2 : Int).toNat default).Low] : List Int) = [0, 2, 1, 0, 0, 3, 3])) = true then
  (some false)
  else
  Option.bind (Wv ({ a1 with c := ({ r3.C with N := a1.c.N, S := a1.c.S, T := a1.c.T } : Csr) } : WorkerWorker)) fun a3 =>
  if a3 = true then
  (Option.bind (Zby ({ a1 with c := ({ r3.C with N := a1.c.N, S := a1.c.S, T := a1.c.T } : Csr) } : WorkerWorker)) fun a4 =>
  Z9o r3 a2 (decide (a4 = 2)))
  else
  Z9o r3 a2 false
def Z59  : Option (Bool) :=
  Option.bind (Z1z (Net.mk 3 0 2 ([(Arc.mk 0 1 5), (Arc.mk 1 2 3)])) 9) fun (r3, r4) =>
  if (!r4) = true then
  (some false)
  else
  Option.bind (Zbd r3.Dealt ([1])) fun a0 =>
  if (!a0) = true then
  (some false)
  else
  Option.bind (Wb (fun s => Z9q r3 s.1 s.2.1 s.2.2.1 s.2.2.2) Xn (r3.B.l, ({ r3.W with c := ({ r3.C with N := r3.W.c.N, S := r3.W.c.S, T := r3.W.c.T } : Csr) } : WorkerWorker), 0, ([] : List Evt))) fun (p1_0_0, p1_0_1, p1_0_2) => Zat r3 p1_0_0 p1_0_1 p1_0_2
def Z9f (n0 : Net) (a0 : Int) : Option (Bool) :=
  Option.bind (Z8l n0 a0) fun (r3, r4, r5) =>
  if (!r5) = true then
  (some false)
  else
  gd (mkok r3.N) <|
  gd (inb r3.S (List.replicate r3.N.toNat (0 : Int)).length) <|
  Option.bind (Z3c ({ r4 with W := ({ r4.W with c := ({ r4.C with N := r4.W.c.N, S := r4.W.c.S, T := r4.W.c.T } : Csr) } : WorkerWorker) } : Acequialaw16Phase) ([]) 8000 ({ r4 with W := ({ r4.W with c := ({ r4.C with N := r4.W.c.N, S := r4.W.c.S, T := r4.W.c.T } : Csr) } : WorkerWorker) } : Acequialaw16Phase) r3 ((List.replicate r3.N.toNat (0 : Int)).set r3.S.toNat r3.N)) fun (a1, a3, a4, a5) =>
  if a1 = true then
  (Option.bind Z59 fun a2 =>
  some a2)
  else
  some false
end Go.Acq
namespace Go.Acq
open Go Go.RowKit
section rules
variable {C : Cx} {ops : Array Oper} {Q : Exit → Act → World → Prop} {l : List Nat} {E : Env} {H R : Heap} {i d : Nat} {ty : TypeId} {pos : String} {af : Array Edge} {g : Option (Nat × Bool)}
theorem Zq {c : Code} {E' : Env} (hE : AllF E' E) (h : T C c Q E' H) : T C c Q E H := T.weak h hE.sub (Yb _)
end rules
end Go.Acq
namespace Go.Acq
open Go Go.RowKit
section rules
variable {C : Cx} {ops : Array Oper} {Q : Exit → Act → World → Prop} {l : List Nat} {E : Env} {H R : Heap} {i d : Nat} {ty : TypeId} {pos : String} {af : Array Edge} {g : Option (Nat × Bool)}
end rules
end Go.Acq
namespace Go.Acq
open Go Go.RowKit Go.ChangeShapes Go.WideShapes Go.Deep Go.Joins
section
variable {H : Type} {enc : TypeId × Value → H} {P : Program} {w : World} {base : Nat} {spare : Nat → Bool} {held : Bool}
theorem Zmz {t e : TypeId} {fs : Array Field} {fuel : Nat} {cs : List Value} {x : DataW H × List MemPlace} (ht : P.underlying t = some (.slice e)) (he : P.underlying e = some (.struct fs))
    (hone : oneCellFields P fs = true) (hC : P.cellsOf e = fs.size) (h : DataW.trod enc P w base spare held fuel t cs = some x) :
    (cs = [.slice none 0 0] ∧ x = (.nil, [])) ∨
    ∃ (a : Addr) (len cap m : Nat) (D : Nat → DataW H) (Pl : Nat → List MemPlace), cs = [.slice (some a) len cap] ∧ base ≤ a.block ∧ len ≤ cap ∧ cap ≤ maxLen ∧ m = (if spare a.block then cap else len) ∧
      x = (.slice ((List.range len).map D) ((List.range (m - len)).map fun j => D (len + j)), MemPlace.row a (m * fs.size) ++ (List.range m).flatMap Pl) ∧
      ∀ i, i < m → ∃ (ys : List (DataW H × List MemPlace)) (n : Nat), D i = .agg (ys.map (·.1)) ∧ Pl i = ys.flatMap (·.2) ∧ ys.length = fs.size ∧
        ∀ (j : Nat) (f : Field), fs[j]? = some f → ∃ (v : Value) (y : DataW H × List MemPlace), w.cell? (a.add (i * fs.size + j)) = some v ∧ ys[j]? = some y ∧ DataW.trod enc P w base spare held n f.type [v] = some y := by
  rcases open_slice ht h with h0 | ⟨a, len, cap, m, n, D, Pl, hcs, hb, hl, hm, hmm, hx, hi⟩
  · exact .inl h0
  · refine .inr ⟨a, len, cap, m, D, Pl, hcs, hb, hl, hm, hmm, by rw [hC] at hx; exact hx, fun i him => ?_⟩
    obtain ⟨cs', hc, ht'⟩ := hi i him
    rw [hC] at hc
    obtain ⟨ys, n', hn', hy, hlen, hyl, hf⟩ := DataW.trod_struct he ht'
    obtain ⟨_, hcl, hat⟩ := World.cells?_some hc
    simp only [Prod.mk.injEq] at hy
    refine ⟨ys, n', hy.1, hy.2, hyl, fun j f hj => ?_⟩
    obtain ⟨ho, hk⟩ := hone_of hone j f hj
    have hjl : j < fs.size := (Array.getElem?_eq_some_iff.1 hj).1
    have hcell := hat j hjl
    have hv : cs'[j]? = some (cs'[j]'(by omega)) := List.getElem?_eq_getElem (by omega)
    have h1 := hf j f hj
    rw [ho, hk] at h1
    have hone' : (cs'.drop j).take 1 = [cs'[j]'(by omega)] := by
      rw [List.drop_eq_getElem_cons (by omega)]
      rfl
    rw [hone'] at h1
    have hys : ys[j]? = some (ys[j]'(by omega)) := List.getElem?_eq_getElem (by omega)
    refine ⟨_, _, ?_, hys, h1.trans hys⟩
    rw [← Go.Deep.add_add, hcell, hv]
end
section
variable {H : Type} {enc : TypeId × Value → H} {P : Program} {w : World} {base : Nat} {spare : Nat → Bool} {held : Bool}
def Rc (x : Int) : Prop := -9223372036854775808 ≤ x ∧ x ≤ 9223372036854775807
theorem Zb1 {x : Int} (h : (Lit.int .i64 x).wf = true) : Rc x := by
 unfold Rc; simp [Lit.wf, IntKind.min, IntKind.max, IntKind.signed, IntKind.bits] at h; omega
theorem open_arcs {t e : TypeId} {fs : Array Field} {f0 f1 f2 : Field} {fuel : Nat} {v : Value} {x : DataW H × List MemPlace} (ht : P.underlying t = some (.slice e)) (he : P.underlying e = some (.struct fs)) (hfs : fs = #[f0, f1, f2])
    (hone : oneCellFields P fs = true) (hC : P.cellsOf e = fs.size) (k0 : P.underlying f0.type = some (.int .i64)) (k1 : P.underlying f1.type = some (.int .i64)) (k2 : P.underlying f2.type = some (.int .i64))
    (h : DataW.trod enc P w base spare held fuel t [v] = some x) :
    ∃ (b : Option Addr) (n c : Nat) (al : List Arc), v = .slice b n c ∧ RO w Wh 3 b n al ∧ n ≤ c ∧ n ≤ 9223372036854775807 ∧ ∀ a, a ∈ al → Rc a.fr ∧ Rc a.to ∧ Rc a.cap := by
  rcases Zmz ht he hone hC h with ⟨hcs, _⟩ | ⟨a, l, c, m, D, Pl, hcs, _, hl, hm, hmm, _, hi⟩
  · injection hcs with h1 _
    exact ⟨none, 0, 0, [], h1, Zfb w (fun _ => rfl), Nat.le_refl _, by omega, fun y hy => by cases hy⟩
  · injection hcs with h1 _
    have hlm : l ≤ m := by rw [hmm]; split <;> omega
    have key : ∀ i, i < l → ∃ q : Arc, w.cell? (a.add (i * 3 + 0)) = some (.int .i64 q.fr) ∧ w.cell? (a.add (i * 3 + 1)) = some (.int .i64 q.to) ∧ w.cell? (a.add (i * 3 + 2)) = some (.int .i64 q.cap) ∧ Rc q.fr ∧ Rc q.to ∧ Rc q.cap := by
      intro i hil
      obtain ⟨ys, n, _, _, _, hf⟩ := hi i (by omega)
      subst hfs
      obtain ⟨v0, y0, c0, _, t0⟩ := hf 0 f0 rfl
      obtain ⟨v1, y1, c1, _, t1⟩ := hf 1 f1 rfl
      obtain ⟨v2, y2, c2, _, t2⟩ := hf 2 f2 rfl
      obtain ⟨n0, e0, _, w0⟩ := DataW.trod_int k0 t0
      obtain ⟨n1, e1, _, w1⟩ := DataW.trod_int k1 t1
      obtain ⟨n2, e2, _, w2⟩ := DataW.trod_int k2 t2
      injection e0 with e0 _; injection e1 with e1 _; injection e2 with e2 _
      subst e0; subst e1; subst e2
      exact ⟨⟨n0, n1, n2⟩, c0, c1, c2, Zb1 w0, Zb1 w1, Zb1 w2⟩
    let g : Nat → Arc := fun i => if hil : i < l then Classical.choose (key i hil) else default
    have hg : ∀ i (hil : i < l), g i = Classical.choose (key i hil) := fun i hil => by simp only [g, dif_pos hil]
    refine ⟨some a, l, c, (List.range l).map g, h1, ⟨by simp, (fun e => by cases e), arcC_len, fun o q ho hq x hx => ?_⟩, hl, by unfold maxLen at hm; omega, fun y hy => ?_⟩
    · simp only [List.length_map, List.length_range] at ho
      have hs := Classical.choose_spec (key o ho)
      rw [← hg o ho] at hs
      have hxo : x = g o := by
        rw [List.getElem?_map, List.getElem?_range ho] at hx
        simpa using hx.symm
      subst hxo
      rcases (show q = 0 ∨ q = 1 ∨ q = 2 by omega) with rfl | rfl | rfl
      · exact hs.1
      · exact hs.2.1
      · exact hs.2.2.1
    · obtain ⟨i, hil, rfl⟩ := List.mem_map.1 hy
      have hil := List.mem_range.1 hil
      have hs := Classical.choose_spec (key i hil)
      rw [← hg i hil] at hs
      exact hs.2.2.2
end
end Go.Acq
namespace Go.Acq
open Go Go.RowKit Go.ChangeShapes Go.WideShapes Go.Deep Go.Joins
theorem i64ok_wf {x : Int} (h : (Lit.int .i64 x).wf = true) : i64ok x := by simp [Lit.wf, IntKind.min, IntKind.max, IntKind.signed, IntKind.bits] at h; omega
theorem u8ok_wf {x : Int} (h : (Lit.int .u8 x).wf = true) : u8ok x := by simp [Lit.wf, IntKind.min, IntKind.max, IntKind.signed, IntKind.bits] at h; omega
section
variable {H : Type} {enc : TypeId × Value → H} {P : Program} {w : World} {base : Nat} {spare : Nat → Bool} {held : Bool}
end
end Go.Acq
namespace Go.Acq
open Go Go.RowKit
abbrev SM := Option Addr × Nat × Nat
def smC (m : SM) : List Value := [.slice m.1 m.2.1 m.2.2]
structure RW {α : Type} (w : World) (M : List Nat) (f : α → List Value) (s : Nat) (base : Option Addr) (n c : Nat) (ms : List SM) (xss : List (List α)) : Prop where
  rs : RS w M smC 1 base n c ms
  eqlen : ms.length = xss.length
  row : ∀ i, i < ms.length → RS w M f s (ms.getD i default).1 (ms.getD i default).2.1 (ms.getD i default).2.2 (xss.getD i [])
section
variable {α : Type} {w w0 : World} {M M' : List Nat} {f : α → List Value} {s n c : Nat} {base : Option Addr} {ms : List SM} {xss : List (List α)} {H Hm R : Heap}
theorem RW.len (h : RW w M f s base n c ms xss) : xss.length = n := by rw [← h.eqlen]; exact h.rs.len
theorem RW.cap (h : RW w M f s base n c ms xss) : n ≤ c := h.rs.cap
theorem RW.nil (w : World) (M : List Nat) : RW w M f s none 0 0 [] ([] : List (List α)) := ⟨RS.nil _ _ (fun _ => rfl), rfl, fun i hi => by simp at hi⟩
theorem RW.mono (h : RW w0 M f s base n c ms xss) (hi : Inv w0 M w H) : RW w [] f s base n c ms xss := ⟨h.rs.mono hi, h.eqlen, fun i hl => (h.row i hl).mono hi⟩
theorem RW.monoM (h : RW w0 M f s base n c ms xss) (hs : 0 < s) (hi : Inv w0 M w H) (hp : List.Perm H (Hm ++ R)) (hM : Hm.filterMap (·.1) = M') : RW w M' f s base n c ms xss :=
 ⟨h.rs.monoM (by decide) hi hp hM, h.eqlen, fun i hl => (h.row i hl).monoM hs hi hp hM⟩
theorem Zg5 {α : Type} {xs : List α} {d : α} {i k : Nat} (h : i < k) : (xs.take k).getD i d = xs.getD i d := by
 simp [List.getD_eq_getElem?_getD, List.getElem?_take, h]
theorem Zg6 {α : Type} {xs : List α} {d : α} {i k : Nat} : (xs.drop k).getD i d = xs.getD (k + i) d := by
 simp [List.getD_eq_getElem?_getD]
theorem RW.take (h : RW w M f s base n c ms xss) {p : Int} (hp : 0 ≤ p ∧ p ≤ (xss.length : Int)) : RW w M f s base p.toNat c (ms.take p.toNat) (xss.take p.toNat) :=
 ⟨h.rs.take (by rw [h.eqlen]; exact hp), by rw [List.length_take, List.length_take, h.eqlen], fun i hi => by
  rw [List.length_take] at hi
  rw [Zg5 (by omega), Zg5 (by omega)]; exact h.row i (by omega)⟩
theorem RW.drop (h : RW w M f s base n c ms xss) {p : Int} (hp : 0 ≤ p ∧ p ≤ (xss.length : Int)) : RW w M f s (Ny base p.toNat c 1) (n - p.toNat) (c - p.toNat) (ms.drop p.toNat) (xss.drop p.toNat) :=
 ⟨h.rs.drop (by rw [h.eqlen]; exact hp), by rw [List.length_drop, List.length_drop, h.eqlen], fun i hi => by
  rw [List.length_drop] at hi
  rw [Zg6, Zg6]; exact h.row _ (by omega)⟩
theorem RW.at (h : RW w M f s base n c ms xss) {p : Int} (hp : inb p xss.length) : RS w M f s (ms.getD p.toNat default).1 (ms.getD p.toNat default).2.1 (ms.getD p.toNat default).2.2 (xss.getD p.toNat []) :=
 h.row _ (by rw [h.eqlen]; exact Uu hp)
theorem RW.inb (h : RW w M f s base n c ms xss) {p : Int} (hp : inb p xss.length) : inb p ms.length := by rw [h.eqlen]; exact hp
end
section rules
variable {C : Cx} {ops : Array Oper} {Q : Exit → Act → World → Prop} {l : List Nat} {E : Env} {H R : Heap} {i d : Nat} {ty : TypeId} {pos : String} {af : Array Edge} {g : Option (Nat × Bool)}
end rules
open Go.ChangeShapes Go.WideShapes Go.Deep Go.Joins
section
variable {H : Type} {enc : TypeId × Value → H} {P : Program} {w : World} {base : Nat} {spare : Nat → Bool} {held : Bool}
end
end Go.Acq
namespace Go.Acq
open Go Go.RowKit
end Go.Acq
namespace Go.Acq
open Go Go.RowKit
end Go.Acq
namespace Go.Acq
open Go Go.RowKit Go.ChangeShapes Go.WideShapes Go.Deep Go.Joins
section
variable {H : Type} {enc : TypeId × Value → H} {P : Program} {w : World} {base : Nat} {spare : Nat → Bool} {held : Bool}
end
end Go.Acq
namespace Go.Acq
open Go Go.RowKit
abbrev mkD (r : Nat) : Deferred := { target := .collected r, args := #[] }
section
variable {w0 w w' w'' : World} {M M' : List Nat} {H H' Hm R : Heap} {b : Nat} {o o' : Obj}
theorem Pick.skip {p : Option Nat × Obj} (h : Pick H' H) : Pick H' (p :: H) := by
 obtain ⟨S, ns, hn, hS⟩ := h
 refine ⟨p :: S, ns, hn, ?_⟩
 rw [List.cons_append]
 exact (List.Perm.cons p hS).trans List.perm_middle.symm
theorem Inv.put (h : Inv w0 M w ((some b, o) :: R)) (o' : Obj) : Inv w0 M (w.putObj b o') ((some b, o') :: R) :=
 h.upd (Take.head _ _) rfl rfl rfl World.putObj_size (World.putObj_heap_same (h.lt (.head _))) (fun _ hk => World.putObj_heap_other hk)
theorem HB.monoM {cs : List Value} (h : HB w0 M b cs) (hne : cs ≠ []) (hi : Inv w0 M w H) (hp : List.Perm H (Hm ++ R)) (hM : Hm.filterMap (·.1) = M') : HB w M' b cs :=
 ⟨fun j v hj => hi.cell_old (h.has j v hj) h.far, fun hm => by
  subst hM
  obtain ⟨o, ho⟩ := Z0y hm
  obtain ⟨v, cs', rfl⟩ := List.exists_cons_of_ne_nil hne
  have h0 := h.has 0 v rfl
  have hb : b < w0.heap.size := by
   unfold World.cell? at h0
   split at h0
   · rename_i he; exact (Array.getElem?_eq_some_iff.1 he).1
   · cases h0
  rcases hi.low b o ((List.Perm.mem_iff hp).2 (List.mem_append_left _ ho)) with hl | hl
  · omega
  · exact h.far hl⟩
end
section rules
variable {C : Cx} {ops : Array Oper} {Q : Exit → Act → World → Prop} {l : List Nat} {E : Env} {H R : Heap} {i d : Nat} {ty : TypeId} {pos : String} {af : Array Edge} {g : Option (Nat × Bool)}
end rules
section control
variable {C : Cx} {Q : Exit → Act → World → Prop} {E : Env} {H : Heap}
end control
section ends
variable {C : Cx} {E : Env} {H H' N : Heap}
end ends
end Go.Acq
namespace Go.Acq
open Go Go.RowKit
end Go.Acq
namespace Go.Acq
open Go Go.RowKit
theorem Xa {C : Cx} {P : Program} {fn : Func} {R : Ending → World → Prop} {E : Env} {H : Heap} (h : X C (bodyPost P fn R) .ret E H) : X C (bodyPost P fn R) .normal E H := h
end Go.Acq
namespace Go.Acq
open Go Go.RowKit
section
variable {C : Cx} {ops : Array Oper} {Q : Exit → Act → World → Prop} {l l2 : List Nat} {E E' : Env} {H H' : Heap}
def JQ (C : Cx) (Q : Exit → Act → World → Prop) (d : Nat) (φ : Bool → Prop) (E : Env) (H : Heap) : Exit → Act → World → Prop
  | .normal, a, w => ∃ b, φ b ∧ Fits C.n C.D ((d, .bool b) :: E) a ∧ Inv C.w0 C.M w H
  | e, a, w => Q e a w
theorem TO.join (l1 l2 : List Nat) (hl : l1 ++ l2 = l) (d : Nat) (φ : Bool → Prop) (E' : Env) (h1 : TO C ops (JQ C Q d φ E' H) l1 E H) (h2 : ∀ b, φ b → TO C ops Q l2 ((d, .bool b) :: E') H) : TO C ops Q l E H := by
 subst hl
 intro a w hf hi
 refine Z17 (Q' := JQ C Q d φ E' H) (fun e a w hne h => ?_) (fun a w h => ?_) l1 a w (h1 a w hf hi)
 · cases e <;> first | exact absurd rfl hne | exact h
 ·
  obtain ⟨b, hb, hfit, hinv⟩ := h
  exact h2 b hb a w hfit hinv
theorem Wm {d : Nat} {φ : Bool → Prop} {b : Bool} (h : φ b) (hE : AllF ((d, .bool b) :: E') E) : X C (JQ C Q d φ E' H) .normal E H := fun _ _ hf hi => ⟨b, h, hf.weak hE.sub, hi⟩
end
end Go.Acq
namespace Go.Acq
open Go Go.RowKit
def Jq (P : Program) (K : World → Prop) (w : World) (v : Value) : Result Next → Prop
  | .ok (.value u) w' => w' = w ∧ u = v
  | .ok (.enter f args) w' => w' = w ∧ Calls P f args w (fun e w'' => e = .returned v ∧ K w'')
  | _ => False
def Kq (P : Program) (ops : Array Oper) (K : World → Prop) (Qn : Act → Prop) : List Nat → Act → Prop
  | [], a => Qn a
  | i :: rest, a => match ops[i]? with
    | none => Kq P ops K Qn rest a
    | some o => (∀ c, o.op ≠ .defer c) ∧ (∀ cs b, o.op ≠ .select cs b) ∧
        if Region.wanted o (yielded ops a.tmps) = true then ∃ v, (∀ w, K w → Jq P K w v ((execOp a.eval o).run P w)) ∧ Kq P ops K Qn rest (a.put o.dst v)
        else Kq P ops K Qn rest (a.put o.dst undef)
def TQ (C : Cx) (ops : Array Oper) (Qn : Act → Prop) (l : List Nat) (E : Env) (H : Heap) : Prop := ∀ a, Fits C.n C.D E a → Kq C.P ops (fun w => Inv C.w0 C.M w H) Qn l a
def seqB (ops : Array Oper) (m : Nat) : Bool := (List.range m).all fun i => match ops[i]? with
  | none => false
  | some o => (match o.dst with | some d => (List.range m).all fun j => Nat.beq j i || !(Yt ops j == some d) | none => false) &&
      (o.looksAt ops).all fun t => (List.range m).all fun j => !(Yt ops j == some t) || (Nat.blt j i && Wl ops ops.size i j)
section
variable {C : Cx} {ops : Array Oper} {Q : Exit → Act → World → Prop} {E : Env} {H : Heap}
def Vs (ops : Array Oper) (vs : Nat → Value) (a : Act) : Nat → Act
  | 0 => a
  | i + 1 => (Vs ops vs a i).put (Yt ops i) (vs i)
structure DoneQ (ops : Array Oper) (m : Nat) (vs : Nat → Value) (a0 : Act) (done : Nat → Bool) (a : Act) : Prop where
  size : a.tmps.size = a0.tmps.size
  defers : a.defers = a0.defers
  has : ∀ j d, j < m → done j = true → Yt ops j = some d → d < a0.tmps.size → a.tmps[d]? = some (vs j)
  old : ∀ t, (∀ j, j < m → done j = true → Yt ops j ≠ some t) → a.tmps[t]? = a0.tmps[t]?
theorem DoneQ.put {m : Nat} {vs : Nat → Value} {a0 a : Act} {done : Nat → Bool} {i d : Nat} (h : DoneQ ops m vs a0 done a) (hi : i < m) (hd : Yt ops i = some d) (hu : ∀ j, j < m → j ≠ i → Yt ops j ≠ some d) :
    DoneQ ops m vs a0 (fun q => if q = i then true else done q) (a.put (some d) (vs i)) := by
  refine ⟨by simpa [Act.put] using h.size, h.defers, fun j e hj hdj hs hlt => ?_, fun t ht => ?_⟩
  · simp only [Act.put, Array.getElem?_setIfInBounds]
    by_cases c : j = i
    · subst c
      rw [hd] at hs; injection hs with hs; subst hs
      rw [if_pos rfl, if_pos (by rw [h.size]; exact hlt)]
    · have hne : d ≠ e := by rintro rfl; exact hu j hj c hs
      rw [if_neg hne]
      exact h.has j e hj (by simpa [c] using hdj) hs hlt
  · simp only [Act.put, Array.getElem?_setIfInBounds]
    have hne : d ≠ t := by rintro rfl; exact ht i hi (by simp) hd
    rw [if_neg hne]
    exact h.old t fun j hj hdj => ht j hj (by by_cases c : j = i <;> simp [c, hdj])
theorem Zfl {a a' : Act} {t : Nat} (h : a.tmps[t]? = a'.tmps[t]?) : a.eval (.tmp t) = a'.eval (.tmp t) := by
 simp [Act.eval, Array.getD_eq_getD_getElem?, h]
theorem Z29 {m : Nat} {vs : Nat → Value} {a0 a a' : Act} {done done' : Nat → Bool} {o : Oper} (h : DoneQ ops m vs a0 done a) (h' : DoneQ ops m vs a0 done' a')
    (hl : ∀ t, t ∈ o.looksAt ops → ∀ j, j < m → Yt ops j = some t → done j = true ∧ done' j = true) :
    (∀ x, x ∈ o.op.operands → a.eval x = a'.eval x) ∧ Region.wanted o (yielded ops a.tmps) = Region.wanted o (yielded ops a'.tmps) := by
  have key : ∀ t : Nat, t ∈ o.looksAt ops → a.tmps[t]? = a'.tmps[t]? := by
    intro t ht
    by_cases c : ∃ j, j < m ∧ Yt ops j = some t
    · obtain ⟨j, hj, hs⟩ := c
      obtain ⟨d1, d2⟩ := hl t ht j hj hs
      by_cases hlt : t < a0.tmps.size
      · rw [h.has j t hj d1 hs hlt, h'.has j t hj d2 hs hlt]
      · rw [Array.getElem?_eq_none (by rw [h.size]; omega), Array.getElem?_eq_none (by rw [h'.size]; omega)]
    · have hn : ∀ j, j < m → Yt ops j ≠ some t := fun j hj hs => c ⟨j, hj, hs⟩
      rw [h.old t fun j hj _ => hn j hj, h'.old t fun j hj _ => hn j hj]
  refine ⟨fun x hx => ?_, ?_⟩
  · cases x with
    | tmp t => exact Zfl (key t (List.mem_append_left _ (List.mem_filterMap.2 ⟨.tmp t, by simpa using hx, rfl⟩)))
    | const v => rfl
    | global g => rfl
    | func f => rfl
  · unfold Region.wanted
    cases hg : o.guard with
    | none => rfl
    | some gw =>
      obtain ⟨g, want⟩ := gw
      have : yielded ops a.tmps g = yielded ops a'.tmps g := by
        unfold yielded
        cases ht : (ops[g]?).bind (·.dst) with
        | none => rfl
        | some t =>
          have := key t (List.mem_append_right _ (by rw [hg]; simp [ht]))
          simp only [Option.bind_some, this]
      simp only [this]
theorem Zd2 {K : World → Prop} {Qn : Act → Prop} {vs0 : Nat → Value} {a0 : Act} : ∀ (k i : Nat), (∀ j, j < i + k → ∃ o, ops[j]? = some o) → Kq C.P ops K Qn (List.range' i k) (Vs ops vs0 a0 i) →
    ∃ vs : Nat → Value, (∀ j, j < i → vs j = vs0 j) ∧ (∀ j o, i ≤ j → j < i + k → ops[j]? = some o → (∀ c, o.op ≠ .defer c) ∧ (∀ cs b, o.op ≠ .select cs b) ∧
      ((Region.wanted o (yielded ops (Vs ops vs a0 j).tmps) = true ∧ ∀ w, K w → Jq C.P K w (vs j) ((execOp (Vs ops vs a0 j).eval o).run C.P w)) ∨ (Region.wanted o (yielded ops (Vs ops vs a0 j).tmps) = false ∧ vs j = undef))) ∧ Qn (Vs ops vs a0 (i + k))
  | 0, i, _, h => ⟨vs0, fun _ _ => rfl, fun j o h1 h2 => by omega, h⟩
  | k + 1, i, hops, h => by
    obtain ⟨o, ho⟩ := hops i (by omega)
    rw [List.range'_succ] at h
    simp only [Kq, ho] at h
    obtain ⟨hd, hs, h⟩ := h
    have hslot : Yt ops i = o.dst := by simp [Yt, ho]
    obtain ⟨v, hv, hrest⟩ : ∃ v, ((Region.wanted o (yielded ops (Vs ops vs0 a0 i).tmps) = true ∧ ∀ w, K w → Jq C.P K w v ((execOp (Vs ops vs0 a0 i).eval o).run C.P w)) ∨ (Region.wanted o (yielded ops (Vs ops vs0 a0 i).tmps) = false ∧ v = undef)) ∧
        Kq C.P ops K Qn (List.range' (i + 1) k) ((Vs ops vs0 a0 i).put o.dst v) := by
      by_cases hw : Region.wanted o (yielded ops (Vs ops vs0 a0 i).tmps) = true
      · rw [if_pos hw] at h
        obtain ⟨v, h1, h2⟩ := h
        exact ⟨v, .inl ⟨hw, h1⟩, h2⟩
      · rw [if_neg hw] at h
        exact ⟨undef, .inr ⟨by simpa using hw, rfl⟩, h⟩
    have hcongr : ∀ (vs' : Nat → Value), (∀ j, j < i → vs' j = vs0 j) → ∀ j, j ≤ i → Vs ops vs' a0 j = Vs ops vs0 a0 j := by
      intro vs' hvs j
      induction j with
      | zero => intro _; rfl
      | succ j ih => intro hj; simp only [Vs]; rw [ih (by omega), hvs j (by omega)]
    let vs1 : Nat → Value := fun j => if j = i then v else vs0 j
    have e1 : Vs ops vs1 a0 (i + 1) = (Vs ops vs0 a0 i).put o.dst v := by
      simp only [Vs]
      rw [hcongr vs1 (fun j hj => by simp only [vs1]; rw [if_neg (by omega)]) i (Nat.le_refl _), hslot]
      simp only [vs1, if_true]
    rw [← e1] at hrest
    obtain ⟨vs, g1, g2, g3⟩ := Zd2 k (i + 1) (fun j hj => hops j (by omega)) hrest
    have gi : vs i = v := by rw [g1 i (by omega)]; simp only [vs1, if_true]
    have gl : ∀ j, j < i → vs j = vs0 j := fun j hj => by rw [g1 j (by omega)]; simp only [vs1]; rw [if_neg (by omega)]
    refine ⟨vs, gl, fun j o' h1 h2 ho' => ?_, by rw [show i + (k + 1) = i + 1 + k by omega]; exact g3⟩
    by_cases c : j = i
    · subst c
      rw [ho] at ho'; injection ho' with ho'; subst ho'
      rw [hcongr vs gl j (Nat.le_refl _), gi]
      exact ⟨hd, hs, hv⟩
    · exact g2 j o' (by omega) (by omega) ho'
theorem Za2 {m : Nat} {vs : Nat → Value} {a0 : Act} (hu : ∀ i, i < m → ∃ d, Yt ops i = some d ∧ ∀ j, j < m → j ≠ i → Yt ops j ≠ some d) : ∀ i, i ≤ m → DoneQ ops m vs a0 (fun q => decide (q < i)) (Vs ops vs a0 i)
 | 0, _ => ⟨rfl, rfl, fun j d _ h => by simp at h, fun t _ => rfl⟩
 | i + 1, hi => by
  obtain ⟨d, hd, hud⟩ := hu i (by omega)
  have := (Za2 (vs := vs) (a0 := a0) hu i (by omega)).put (by omega) hd hud
  simp only [Vs]
  rw [hd]
  have e : (fun q : Nat => decide (q < i + 1)) = fun q => if q = i then true else decide (q < i) := by
   funext q
   by_cases c : q = i
   · simp [c]
   ·
    have : (q < i + 1) ↔ q < i := by omega
    simp [c, this]
  rw [e]; exact this
theorem Xv {id : Nat} (m : Nat) (ll : List Nat) (hll : List.range m = ll) (hm : C.P.follows .mixedOrders = true) (hb : Nn ops = true) (ht : Z1n ops m = true) (hms : Nat.ble m ops.size = true) (hs : seqB ops m = true)
    (k : TQ C ops (fun a => ∀ w, Inv C.w0 C.M w H → wpOpsIn (FW C.ρ) 0 C.P ops Q (List.range' m (ops.size - m)) a w) ll E H) : T C (.region id ops true) Q E H := by
  subst hll
  intro a0 w hf hi
  have hms' := Nat.le_of_ble_eq_true hms
  have hseq : ∀ i, i < m → ∃ o d, ops[i]? = some o ∧ Yt ops i = some d ∧ (∀ j, j < m → j ≠ i → Yt ops j ≠ some d) ∧ ∀ t, t ∈ o.looksAt ops → ∀ j, j < m → Yt ops j = some t → j < i ∧ Wl ops ops.size i j = true := by
    intro i him
    have h1 := List.all_eq_true.1 hs i (List.mem_range.2 him)
    have ho : ops[i]? = some ops[i] := Array.getElem?_eq_getElem (by omega)
    rw [ho] at h1
    simp only [Bool.and_eq_true] at h1
    cases hd : (ops[i]).dst with
    | none => rw [hd] at h1; simp at h1
    | some d =>
      rw [hd] at h1
      refine ⟨ops[i], d, ho, by simp [Yt, ho, hd], fun j hj hji he => ?_, fun t htl j hj hsj => ?_⟩
      · have h2 := List.all_eq_true.1 h1.1 j (List.mem_range.2 hj)
        simp only [Bool.or_eq_true] at h2
        rcases h2 with h2 | h2
        · exact hji (Nat.eq_of_beq_eq_true h2)
        · rw [he] at h2; simp at h2
      · have h2 := List.all_eq_true.1 (List.all_eq_true.1 h1.2 t htl) j (List.mem_range.2 hj)
        rw [hsj] at h2
        simpa using h2
  have hu : ∀ i, i < m → ∃ d, Yt ops i = some d ∧ ∀ j, j < m → j ≠ i → Yt ops j ≠ some d := fun i h => by
    obtain ⟨_, d, _, h1, h2, _⟩ := hseq i h; exact ⟨d, h1, h2⟩
  have hk := k a0 hf
  rw [List.range_eq_range'] at hk
  obtain ⟨vs, -, hstep, hend⟩ := Zd2 (C := C) (vs0 := fun _ => undef) (a0 := a0) m 0 (fun j hj => by obtain ⟨o, _, ho, _⟩ := hseq j (by omega); exact ⟨o, ho⟩) hk
  rw [Nat.zero_add] at hend
  refine Zbq (m := m) (Jp := fun done a w => DoneQ ops m vs a0 done a ∧ Inv C.w0 C.M w H) hm hb ht hms' ?_ ?_ ⟨⟨rfl, rfl, fun j d _ h => by simp at h, fun t _ => rfl⟩, hi.ofHeap rfl rfl rfl rfl⟩
  · rintro done i o a w1 him ho hdi hcl hafter _ ⟨hD, hinv⟩
    obtain ⟨o', d, ho', hsl, hud, hlook⟩ := hseq i him
    rw [ho] at ho'; injection ho' with ho'; subst ho'
    have hdst : o.dst = some d := by simpa [Yt, ho] using hsl
    have hdone : ∀ j, Wl ops ops.size i j = true → done j = true := fun j hj => Gx hcl _ i j hj (fun o' ho' => by rw [ho] at ho'; injection ho' with ho'; subst ho'; exact hafter)
    obtain ⟨hev, hwt⟩ := Z29 hD (Za2 hu i (by omega)) (o := o) (fun t htl j hj hsj => by
      obtain ⟨h1, h2⟩ := hlook t htl j hj hsj
      exact ⟨hdone j h2, by simpa using h1⟩)
    obtain ⟨hnd, hns, hval⟩ := hstep i o (by omega) (by omega) ho
    have hex := execOp_congr o hns hev
    have hput := hD.put him hsl hud
    unfold wpOpIn
    rw [ho]
    simp only
    rcases hval with ⟨hw, hq⟩ | ⟨hw, hq⟩
    · rw [hwt, hw]
      simp only [if_true]
      refine ⟨fun _ _ => trivial, ?_⟩
      rw [Oper.semAt_eq _ _ _ hnd, hex]
      have hq := hq w1 hinv
      generalize (execOp (Vs ops vs a0 i).eval o).run C.P w1 = r at hq
      cases r with
      | ok x w' =>
        cases x <;> simp only [Jq] at hq
        case value u =>
          obtain ⟨rfl, rfl⟩ := hq
          show _ ∧ _
          rw [hdst]
          exact ⟨hput, hinv⟩
        case enter f args =>
          obtain ⟨rfl, hc⟩ := hq
          refine ⟨by simp [FW], callsIn_FW.2 (Calls.mono hc ?_)⟩
          rintro e w'' ⟨rfl, hK⟩
          show _ ∧ _
          rw [hdst]
          exact ⟨hput, hK⟩
      | halt x w' => simp only [Jq] at hq
    · rw [hwt, hw]
      simp only [Bool.false_eq_true, if_false]
      refine ⟨fun _ _ => trivial, ?_⟩
      rw [hdst, ← hq]
      exact ⟨hput, hinv⟩
  · rintro done a w1 hall ⟨hD, hinv⟩
    have hA := Za2 (vs := vs) (a0 := a0) hu m (Nat.le_refl _)
    have ea : a = Vs ops vs a0 m := by
      have e1 : a.tmps = (Vs ops vs a0 m).tmps := by
        apply Array.ext_getElem?
        intro t
        by_cases c : ∃ j, j < m ∧ Yt ops j = some t
        · obtain ⟨j, hj, hsj⟩ := c
          by_cases hlt : t < a0.tmps.size
          · rw [hD.has j t hj (hall j hj) hsj hlt, hA.has j t hj (by simpa using hj) hsj hlt]
          · rw [Array.getElem?_eq_none (by rw [hD.size]; omega), Array.getElem?_eq_none (by rw [hA.size]; omega)]
        · have hn : ∀ j, j < m → Yt ops j ≠ some t := fun j hj hsj => c ⟨j, hj, hsj⟩
          rw [hD.old t fun j hj _ => hn j hj, hA.old t fun j hj _ => hn j hj]
      have e2 : a.defers = (Vs ops vs a0 m).defers := by rw [hD.defers, hA.defers]
      cases a; simp_all
    rw [ea]
    exact hend w1 hinv
theorem TQ.tail {m k : Nat} (l : List Nat) {H0 : Heap} (q0_ : List.range' m k = l ∧ H0 = H) (h : TO C ops Q l E H) : TQ C ops (fun a => ∀ w, Inv C.w0 C.M w H → wpOpsIn (FW C.ρ) 0 C.P ops Q (List.range' m k) a w) [] E H0 := have ⟨hl, hH⟩ := q0_; fun a hf w hi => by rw [hl]; exact h a w hf hi
end
end Go.Acq
namespace Go.Acq
open Go Go.RowKit
section rules
variable {C : Cx} {ops : Array Oper} {Q : Act → Prop} {l : List Nat} {E : Env} {H R : Heap} {i d : Nat} {ty : TypeId} {pos : String} {af : Array Edge} {g : Option (Nat × Bool)}
theorem TQ.val {op : Op} {v : Value} (ho : ops[i]? = some ⟨some d, op, ty, pos, af, g⟩) (hg : Zv ops E g = true) (hd : Nat.ble (d + 1) C.n = true) (hnd : ∀ c, op ≠ .defer c)
    (hr : ∀ a w, Fits C.n C.D E a → Inv C.w0 C.M w H → (execOp a.eval ⟨some d, op, ty, pos, af, g⟩).run C.P w = .ok (.value v) w)
    (k : TQ C ops Q l ((d, v) :: E) H) (hns : ∀ cs b, op ≠ .select cs b := by simp) : TQ C ops Q (i :: l) E H := by
  intro a hf
  simp only [Kq, ho]
  refine ⟨hnd, hns, ?_⟩
  rw [if_pos (Z9u hf hg)]
  exact ⟨v, fun w hi => by rw [hr a w hf hi]; exact ⟨rfl, rfl⟩, k _ (hf.put hd v)⟩
theorem Wf {o : Oper} (q0_ : ops[i]? = some o ∧ gdN ops E o.guard = true ∧ o.dst = some d ∧ Nat.ble (d + 1) C.n = true) (k : TQ C ops Q l ((d, undef) :: E) H) (hnd : ∀ c, o.op ≠ .defer c := by simp) (hns : ∀ cs b, o.op ≠ .select cs b := by simp) : TQ C ops Q (i :: l) E H := by
 obtain ⟨ho, hg, hdst, hd⟩ := q0_
 intro a hf
 simp only [Kq, ho]
 refine ⟨hnd, hns, ?_⟩
 rw [if_neg (by rw [Zeh hf hg]; simp), hdst]
 exact k _ (hf.put hd _)
theorem Gi {t : Nat} {b b' : Bool} (ht : find E t = some (.bool b)) (hb : b = b') (k : TQ C ops Q l ((t, .bool b') :: E) H) : TQ C ops Q l E H := by
 subst hb
 intro a hf
 refine k a ⟨hf.size, hf.defers, fun u v hu => ?_⟩
 rw [Up] at hu
 by_cases e : t = u
 · subst e; rw [if_pos rfl] at hu; injection hu with hu; subst hu; exact hf.get t _ ht
 · rw [if_neg e] at hu; exact hf.get u v hu
theorem Km {f : FuncId} {xs : Array Operand} {at' : Array TypeId} {vs : List Value} {v : Value} {Post : Value → Heap → Prop} (hF : Zx C.P f = true)
    (q0_ : ops[i]? = some ⟨some d, .call ⟨.value (.func f), xs, at'⟩, ty, pos, af, g⟩ ∧ Zv ops E g = true ∧ Nat.ble (d + 1) C.n = true ∧ evs E xs.toList = some vs)
    (hc : ∀ w, Inv C.w0 C.M w H → Fnc C.P f vs.toArray w [] Post) (hv : ∀ u N, Post u N → u = v) (k : TQ C ops Q l ((d, v) :: E) H) : TQ C ops Q (i :: l) E H := by
  obtain ⟨ho, hg, hd, hx⟩ := q0_
  intro a hf
  simp only [Kq, ho]
  refine ⟨by simp, by simp, ?_⟩
  rw [if_pos (Z9u hf hg)]
  refine ⟨v, fun w hi => ?_, k _ (hf.put hd v)⟩
  have e1 : xs.map a.eval = vs.toArray := by apply Array.ext'; simpa using Rn hf hx
  have : (execOp a.eval ⟨some d, .call ⟨.value (.func f), xs, at'⟩, ty, pos, af, g⟩).run C.P w = .ok (.enter f vs.toArray) w := by
    simp [execOp, resolve, Deferred.ofValue, invoke, Act.eval, e1, Z1h hF]
  rw [this]
  refine ⟨rfl, Calls.mono (hc w hi) ?_⟩
  rintro e w' ⟨u, N, hP, rfl, hN⟩
  exact ⟨by rw [hv u N hP], (hi.join0 hN).perm List.perm_append_comm |>.left⟩
theorem TQ.move {x : Operand} {v : Value} (q0_ : ops[i]? = some ⟨some d, .move x, ty, pos, af, g⟩ ∧ Zv ops E g = true ∧ Nat.ble (d + 1) C.n = true ∧ ev E x = some v)
    (k : TQ C ops Q l ((d, v) :: E) H) : TQ C ops Q (i :: l) E H := have ⟨ho, hg, hd, hx⟩ := q0_;
  TQ.val ho hg hd (by simp) (fun a w hf _ => by simp [execOp, hf.ev hx]) k
theorem Z5z {c x y : Operand} {v : Value} (q0_ : ops[i]? = some ⟨some d, .pick c x y, ty, pos, af, g⟩ ∧ Zv ops E g = true ∧ Nat.ble (d + 1) C.n = true ∧ ev E c = some (.bool true) ∧ ev E x = some v) (k : TQ C ops Q l ((d, v) :: E) H) : TQ C ops Q (i :: l) E H := have ⟨ho, hg, hd, hc, hx⟩ := q0_;
  TQ.val ho hg hd (by simp) (fun a w hf _ => by simp [execOp, hf.ev hc, hf.ev hx, asBool]) k
theorem Z85 {c x y : Operand} {v : Value} (q0_ : ops[i]? = some ⟨some d, .pick c x y, ty, pos, af, g⟩ ∧ Zv ops E g = true ∧ Nat.ble (d + 1) C.n = true ∧ ev E c = some (.bool false) ∧ ev E y = some v) (k : TQ C ops Q l ((d, v) :: E) H) : TQ C ops Q (i :: l) E H := have ⟨ho, hg, hd, hc, hx⟩ := q0_;
  TQ.val ho hg hd (by simp) (fun a w hf _ => by simp [execOp, hf.ev hc, hf.ev hx, asBool]) k
theorem Kb {op : BinOp} {t t2 : TypeId} {x y : Operand} {k : IntKind} {p q : Int} {v : Value}
    (q0_ : ops[i]? = some ⟨some d, .binOp op t x y t2, ty, pos, af, g⟩ ∧ Zv ops E g = true ∧ Nat.ble (d + 1) C.n = true ∧ ev E x = some (.int k p) ∧ ev E y = some (.int k q) ∧ Ns op k p q = some v) (kk : TQ C ops Q l ((d, v) :: E) H) : TQ C ops Q (i :: l) E H := have ⟨ho, hg, hd, hx, hy, hv⟩ := q0_;
  TQ.val ho hg hd (by simp) (fun a w hf _ => by simp [execOp, hf.ev hx, hf.ev hy, eqGuard_at_int, Zg1 hv]) kk
theorem TQ.add {t t2 : TypeId} {x y : Operand} {p q : Int}
    (ho : ops[i]? = some ⟨some d, .binOp .add t x y t2, ty, pos, af, g⟩) (hg : Zv ops E g = true) (hd : Nat.ble (d + 1) C.n = true) (hx : ev E x = some (.int .i64 p)) (hy : ev E y = some (.int .i64 q))
    (h1 : -9223372036854775808 ≤ p + q) (h2 : p + q ≤ 9223372036854775807) (kk : TQ C ops Q l ((d, .int .i64 (p + q)) :: E) H) : TQ C ops Q (i :: l) E H :=
  Kb ⟨ho, hg, hd, hx, hy, (by simp only [Ns]; rw [Jd h1 h2])⟩ kk
theorem TQ.sub {t t2 : TypeId} {x y : Operand} {p q : Int}
    (ho : ops[i]? = some ⟨some d, .binOp .sub t x y t2, ty, pos, af, g⟩) (hg : Zv ops E g = true) (hd : Nat.ble (d + 1) C.n = true) (hx : ev E x = some (.int .i64 p)) (hy : ev E y = some (.int .i64 q))
    (h1 : -9223372036854775808 ≤ p - q) (h2 : p - q ≤ 9223372036854775807) (kk : TQ C ops Q l ((d, .int .i64 (p - q)) :: E) H) : TQ C ops Q (i :: l) E H :=
  Kb ⟨ho, hg, hd, hx, hy, (by simp only [Ns]; rw [Jd h1 h2])⟩ kk
theorem TQ.rem {t t2 : TypeId} {x y : Operand} {k : IntKind} {p q : Int}
    (q0_ : ops[i]? = some ⟨some d, .binOp .rem t x y t2, ty, pos, af, g⟩ ∧ Zv ops E g = true ∧ Nat.ble (d + 1) C.n = true ∧ ev E x = some (.int k p) ∧ ev E y = some (.int k q))
    (h0 : q ≠ 0) (kk : TQ C ops Q l ((d, .int k (p.tmod q)) :: E) H) : TQ C ops Q (i :: l) E H := have ⟨ho, hg, hd, hx, hy⟩ := q0_;
  TQ.val ho hg hd (by simp) (fun a w hf _ => by simp [execOp, hf.ev hx, hf.ev hy, eqGuard_at_int, binOp, Op.intDiv, h0]) kk
theorem TQ.neg {t : TypeId} {x : Operand} {k : IntKind} {p : Int} (ho : ops[i]? = some ⟨some d, .unOp .neg t x, ty, pos, af, g⟩) (hg : Zv ops E g = true) (hd : Nat.ble (d + 1) C.n = true)
    (hx : ev E x = some (.int k p)) (kk : TQ C ops Q l ((d, .int k (k.wrap (-p))) :: E) H) : TQ C ops Q (i :: l) E H :=
  TQ.val ho hg hd (by simp) (fun a w hf _ => by simp [execOp, hf.ev hx, Op.unary, Op.intArith]) kk
theorem TQ.conv {s t : TypeId} {x : Operand} {k q : IntKind} {p : Int} (ho : ops[i]? = some ⟨some d, .convert s t x, ty, pos, af, g⟩) (hg : Zv ops E g = true) (hd : Nat.ble (d + 1) C.n = true)
    (hx : ev E x = some (.int k p)) (hs : (C.P.underlying s).isSome = true) (ht : Ro C.P t = some q) (kk : TQ C ops Q l ((d, .int q (q.wrap p)) :: E) H) : TQ C ops Q (i :: l) E H :=
  TQ.val ho hg hd (by simp) (fun a w hf _ => by
    have hu := Zew ht
    cases hs' : C.P.underlying s with
    | none => simp [hs'] at hs
    | some ds => simp [execOp, hf.ev hx, convert, run_underlying hs', run_underlying hu, Conv.intToInt]) kk
theorem Znh {s t : TypeId} {x : Operand} {k q : IntKind} {p : Int} (q0_ : ops[i]? = some ⟨some d, .convert s t x, ty, pos, af, g⟩ ∧ Zv ops E g = true ∧ Nat.ble (d + 1) C.n = true ∧ ev E x = some (.int k p)) (hs : (C.P.underlying s).isSome = true) (ht : Ro C.P t = some q) (hw : q.wrap p = p) (kk : TQ C ops Q l ((d, .int q p) :: E) H) : TQ C ops Q (i :: l) E H := have ⟨ho, hg, hd, hx⟩ := q0_;
  TQ.conv ho hg hd hx hs ht (by rw [hw]; exact kk)
theorem TQ.fieldAddr {s : TypeId} {x : Operand} {f o b p : Nat} (q0_ : ops[i]? = some ⟨some d, .fieldAddr s x f, ty, pos, af, g⟩ ∧ Zv ops E g = true ∧ Nat.ble (d + 1) C.n = true ∧ ev E x = some (.pointer (some ⟨b, p, none⟩))) (hT : Yh C.P s f = some o) (kk : TQ C ops Q l ((d, .pointer (some ⟨b, p + o, none⟩)) :: E) H) : TQ C ops Q (i :: l) E H := have ⟨ho, hg, hd, hx⟩ := q0_;
  TQ.val ho hg hd (by simp) (fun a w hf _ => by simp [execOp, hf.ev hx, Zbr hT]) kk
theorem Ye {s : TypeId} {x : Operand} {f o b : Nat} (q0_ : ops[i]? = some ⟨some d, .fieldAddr s x f, ty, pos, af, g⟩ ∧ Zv ops E g = true ∧ Nat.ble (d + 1) C.n = true ∧ ev E x = some (.pointer (some ⟨b, 0, none⟩))) (hT : Yh C.P s f = some o) (kk : TQ C ops Q l ((d, .pointer (some ⟨b, o, none⟩)) :: E) H) : TQ C ops Q (i :: l) E H := have ⟨ho, hg, hd, hx⟩ := q0_;
  TQ.fieldAddr ⟨ho, hg, hd, hx⟩ hT (by rw [Nat.zero_add]; exact kk)
theorem TQ.build {t : TypeId} {ps : Array (Nat × Operand)} {vs : List (Nat × Value)} {cs : Array Value} (ho : ops[i]? = some ⟨some d, .build t ps, ty, pos, af, g⟩) (hg : Zv ops E g = true) (hd : Nat.ble (d + 1) C.n = true)
    (hx : Gd E ps.toList = some vs) (hb : C.P.built t vs = some cs)
    (kk : TQ C ops Q l ((d, .agg cs) :: E) H) : TQ C ops Q (i :: l) E H :=
  TQ.val ho hg hd (by simp) (fun a w hf _ => by
    have e1 : (ps.map (fun p => (p.1, a.eval p.2))).toList = vs := by simpa using Z87 hf hx
    have := run_build (P := C.P) w t (ps.map (fun p => (p.1, a.eval p.2))) cs (by rw [e1]; exact hb)
    simp [execOp, this]) kk
theorem Zih {t : TypeId} {ps : Array (Nat × Operand)} {vs : List (Nat × Value)} {cs : List Value} (z : List Value) (offs : List Nat) (q0_ : ops[i]? = some ⟨some d, .build t ps, ty, pos, af, g⟩ ∧ Zv ops E g = true ∧ Nat.ble (d + 1) C.n = true ∧ Gd E ps.toList = some vs) (_hcs : Ym offs z vs = cs) (hb : C.P.built t vs = some cs.toArray)
    (kk : TQ C ops Q l ((d, .agg cs.toArray) :: E) H) : TQ C ops Q (i :: l) E H := have ⟨ho, hg, hd, hx⟩ := q0_; TQ.build ho hg hd hx hb kk
theorem TQ.load {t : TypeId} {x : Operand} {ad : Addr} {v : Value} (ho : ops[i]? = some ⟨some d, .load t x, ty, pos, af, g⟩) (hg : Zv ops E g = true) (hd : Nat.ble (d + 1) C.n = true)
    (hx : ev E x = some (.pointer (some ad))) (hT : Xu C.P t = true) (hc : ∀ w, Inv C.w0 C.M w H → w.cell? ad = some v)
    (kk : TQ C ops Q l ((d, v) :: E) H) : TQ C ops Q (i :: l) E H :=
  TQ.val ho hg hd (by simp) (fun a w hf hi => by simp [execOp, hf.ev hx, Instr.loadAt, Instr.sureAddr, Zd6 hT (hc w hi)]) kk
theorem Yi {t T' : TypeId} {x : Operand} {b o : Nat} {cs : Array Value} {fr : Nat × Nat} {v : Value} (q0_ : ops[i]? = some ⟨some d, .load t x, ty, pos, af, g⟩ ∧ Zv ops E g = true ∧ Nat.ble (d + 1) C.n = true ∧ ev E x = some (.pointer (some ⟨b, o, none⟩))) (hT : Xu C.P t = true) (hm : (some b, Obj.cells cs T' fr) ∈ H) (hv : cs[o]? = some v)
    (kk : TQ C ops Q l ((d, v) :: E) H) : TQ C ops Q (i :: l) E H := have ⟨ho, hg, hd, hx⟩ := q0_;
  TQ.load ho hg hd hx hT (fun w hi => by rw [hi.cell_own hm]; exact hv) kk
theorem Z9z {t : TypeId} {x : Operand} {ad : Addr} {k : Nat} {cs : List Value} (ho : ops[i]? = some ⟨some d, .load t x, ty, pos, af, g⟩) (hg : Zv ops E g = true) (hd : Nat.ble (d + 1) C.n = true)
    (hx : ev E x = some (.pointer (some ad))) (hT : Wg C.P t k = true) (hk : cs.length = k) (hc : ∀ w, Inv C.w0 C.M w H → ∀ j v, cs[j]? = some v → w.cell? (ad.add j) = some v)
    (kk : TQ C ops Q l ((d, .agg cs.toArray) :: E) H) : TQ C ops Q (i :: l) E H :=
  TQ.val ho hg hd (by simp) (fun a w hf hi => by simp [execOp, hf.ev hx, Instr.loadAt, Instr.sureAddr, Zbm hT hk (hc w hi)]) kk
theorem TQ.loadA {t T' : TypeId} {x : Operand} {b k : Nat} {cs : List Value} {fr : Nat × Nat} (q0_ : ops[i]? = some ⟨some d, .load t x, ty, pos, af, g⟩ ∧ Zv ops E g = true ∧ Nat.ble (d + 1) C.n = true ∧ ev E x = some (.pointer (some ⟨b, 0, none⟩))) (hT : Wg C.P t k = true) (hm : (some b, Obj.cells cs.toArray T' fr) ∈ H) (hk : cs.length = k)
    (kk : TQ C ops Q l ((d, .agg cs.toArray) :: E) H) : TQ C ops Q (i :: l) E H := have ⟨ho, hg, hd, hx⟩ := q0_;
  Z9z ho hg hd hx hT hk (fun w hi j v hv => by rw [Addr.add_mid, Nat.zero_add, hi.cell_own hm]; simpa using hv) kk
theorem TQ.ldI {t T' : TypeId} {x : Operand} {b o : Nat} {k : IntKind} {xs : List Int} {j : List Value} {fr : Nat × Nat} (ho : ops[i]? = some ⟨some d, .load t x, ty, pos, af, g⟩) (hg : Zv ops E g = true) (hd : Nat.ble (d + 1) C.n = true)
    (hx : ev E x = some (.pointer (some ⟨b, o, none⟩))) (hT : Xu C.P t = true) (hm : (some b, Obj.cells (arr (intC k) xs j).toArray T' fr) ∈ H) (hv : o < xs.length)
    (kk : TQ C ops Q l ((d, .int k (xs.getD o 0)) :: E) H) : TQ C ops Q (i :: l) E H :=
  Yi ⟨ho, hg, hd, hx⟩ hT hm (by
    have := Z07 (f := intC k) (s := 1) (fun _ => rfl) 0 xs j o 0 hv (by omega)
    simpa using this) kk
theorem Zgo {t e : TypeId} {x y : Operand} {base : Option Addr} {n c s : Nat} {k : IntKind} {p : Int} (ho : ops[i]? = some ⟨some d, .indexAddr t x y, ty, pos, af, g⟩) (hg : Zv ops E g = true) (hd : Nat.ble (d + 1) C.n = true)
    (hx : ev E x = some (.slice base n c)) (hy : ev E y = some (.int k p)) (ht : Xh C.P t = some e) (hs : Yq C.P e = some s) (hb : base = none → n = 0) (h0 : 0 ≤ p) (h1 : p < n)
    (kk : TQ C ops Q l ((d, .pointer (some (ea base (p.toNat * s)))) :: E) H) : TQ C ops Q (i :: l) E H :=
  TQ.val ho hg hd (by simp) (fun a w hf hi => by
    cases base with
    | none => exact absurd h1 (by simp [hb rfl]; omega)
    | some b =>
      have hu := Gg ht
      simp [execOp, hf.ev hx, hf.ev hy, Instr.indexAt, asIntOf, run_underlying hu, h0, h1, Rj hs, ea]) kk
theorem TQ.index {t e : TypeId} {x y : Operand} {b o n c s : Nat} {k : IntKind} {p : Int} (ho : ops[i]? = some ⟨some d, .indexAddr t x y, ty, pos, af, g⟩) (hg : Zv ops E g = true) (hd : Nat.ble (d + 1) C.n = true)
    (hx : ev E x = some (.slice (some ⟨b, o, none⟩) n c)) (hy : ev E y = some (.int k p)) (ht : Xh C.P t = some e) (hs : Yq C.P e = some s) (h0 : 0 ≤ p) (h1 : p < n)
    (kk : TQ C ops Q l ((d, .pointer (some ⟨b, o + p.toNat * s, none⟩)) :: E) H) : TQ C ops Q (i :: l) E H :=
  Zgo ho hg hd hx hy ht hs (by simp) h0 h1 (by simpa [ea, Addr.add_mid] using kk)
theorem Zkt {t e : TypeId} {x y : Operand} {b n c s : Nat} {k : IntKind} {p : Int} (ho : ops[i]? = some ⟨some d, .indexAddr t x y, ty, pos, af, g⟩) (hg : Zv ops E g = true) (hd : Nat.ble (d + 1) C.n = true)
    (hx : ev E x = some (.slice (some ⟨b, 0, none⟩) n c)) (hy : ev E y = some (.int k p)) (ht : Xh C.P t = some e) (hs : Yq C.P e = some s) (h0 : 0 ≤ p) (h1 : p < n)
    (kk : TQ C ops Q l ((d, .pointer (some ⟨b, p.toNat * s, none⟩)) :: E) H) : TQ C ops Q (i :: l) E H :=
  TQ.index ho hg hd hx hy ht hs h0 h1 (by rw [Nat.zero_add]; exact kk)
theorem TQ.len {t : TypeId} {at' : Array TypeId} {x : Operand} {e : TypeId} {base : Option Addr} {n c : Nat}
    (ho : ops[i]? = some ⟨some d, .call ⟨.builtin .len, #[x], at'⟩, ty, pos, af, g⟩) (hg : Zv ops E g = true) (hd : Nat.ble (d + 1) C.n = true) (hat : at'[0]? = some t)
    (hx : ev E x = some (.slice base n c)) (ht : Xh C.P t = some e) (kk : TQ C ops Q l ((d, .int .i64 n) :: E) H) : TQ C ops Q (i :: l) E H :=
  TQ.val ho hg hd (by simp) (fun a w hf _ => by
    simp [execOp, resolve, invoke, builtin, hf.ev hx, Builtin.len_, hat, run_underlying (Gg ht), goInt]) kk
theorem TQ.min2 {at' : Array TypeId} {x y : Operand} {k : IntKind} {p q : Int}
    (q0_ : ops[i]? = some ⟨some d, .call ⟨.builtin .min, #[x, y], at'⟩, ty, pos, af, g⟩ ∧ Zv ops E g = true ∧ Nat.ble (d + 1) C.n = true ∧ ev E x = some (.int k p) ∧ ev E y = some (.int k q)) (kk : TQ C ops Q l ((d, .int k (min p q)) :: E) H) : TQ C ops Q (i :: l) E H := have ⟨ho, hg, hd, hx, hy⟩ := q0_;
  TQ.val ho hg hd (by simp) (fun a w hf _ => by
    have : (if q < p then q else p) = min p q := by rw [Int.min_def]; split <;> split <;> omega
    simp [execOp, resolve, invoke, builtin, hf.ev hx, hf.ev hy, Builtin.min_, Builtin.min2, this]) kk
theorem TQ.lenX {α : Type} {t : TypeId} {at' : Array TypeId} {x : Operand} {e : TypeId} {base : Option Addr} {n c : Nat} {xs : List α} (hn : xs.length = n)
    (ho : ops[i]? = some ⟨some d, .call ⟨.builtin .len, #[x], at'⟩, ty, pos, af, g⟩) (hg : Zv ops E g = true) (hd : Nat.ble (d + 1) C.n = true) (hat : at'[0]? = some t)
    (hx : ev E x = some (.slice base n c)) (ht : Xh C.P t = some e) (kk : TQ C ops Q l ((d, .int .i64 (xs.length : Int)) :: E) H) : TQ C ops Q (i :: l) E H :=
  TQ.len ho hg hd hat hx ht (by rw [← hn]; exact kk)
theorem Gc {α : Type} {f : α → List Value} {M : List Nat} {w : World} {xs : List α} {t e : TypeId} {x y : Operand} {base : Option Addr} {n c s : Nat} {k : IntKind} {p : Int} (hr : RS w M f s base n c xs) (hp : inb p xs.length)
    (q0_ : ops[i]? = some ⟨some d, .indexAddr t x y, ty, pos, af, g⟩ ∧ Zv ops E g = true ∧ Nat.ble (d + 1) C.n = true ∧ ev E x = some (.slice base n c) ∧ ev E y = some (.int k p)) (ht : Xh C.P t = some e) (hs : Yq C.P e = some s)
    (kk : TQ C ops Q l ((d, .pointer (some (ea base (p.toNat * s)))) :: E) H) : TQ C ops Q (i :: l) E H := have ⟨ho, hg, hd, hx, hy⟩ := q0_;
  Zgo ho hg hd hx hy ht hs hr.ro.nil hp.1 (by have := hp.2; rw [hr.len] at this; exact this) kk
theorem TQ.ix0 {α : Type} {xs : List α} {t e : TypeId} {x y : Operand} {b n c s : Nat} {k : IntKind} {p : Int} (hn : xs.length = n) (hp : inb p xs.length)
    (ho : ops[i]? = some ⟨some d, .indexAddr t x y, ty, pos, af, g⟩) (hg : Zv ops E g = true) (hd : Nat.ble (d + 1) C.n = true)
    (hx : ev E x = some (.slice (some ⟨b, 0, none⟩) n c)) (hy : ev E y = some (.int k p)) (ht : Xh C.P t = some e) (hs : Yq C.P e = some s)
    (kk : TQ C ops Q l ((d, .pointer (some ⟨b, p.toNat * s, none⟩)) :: E) H) : TQ C ops Q (i :: l) E H :=
  Zkt ho hg hd hx hy ht hs hp.1 (by have := hp.2; rw [hn] at this; exact this) kk
theorem Nl {t : TypeId} {x : Operand} {base : Option Addr} {n c : Nat} {k : IntKind} {p : Int} {xs : List Int} (hr : RS C.w0 C.M (intC k) 1 base n c xs) (hp : inb p xs.length) (q0_ : ops[i]? = some ⟨some d, .load t x, ty, pos, af, g⟩ ∧ Zv ops E g = true ∧ Nat.ble (d + 1) C.n = true ∧ ev E x = some (.pointer (some (ea base (p.toNat * 1))))) (hT : Xu C.P t = true)
    (kk : TQ C ops Q l ((d, .int k (xs.getD p.toNat 0)) :: E) H) : TQ C ops Q (i :: l) E H := have ⟨ho, hg, hd, hx⟩ := q0_;
  TQ.load ho hg hd hx hT (fun w hi => by
    have := (hr.ro.monoM hr.far hi).at 0 (o := p.toNat) (c := 0) (Uu hp) (by omega)
    simpa using this) kk
theorem TQ.ldIO {t T' : TypeId} {x : Operand} {b : Nat} {k : IntKind} {p : Int} {xs : List Int} {j : List Value} {fr : Nat × Nat} (hp : inb p xs.length) (ho : ops[i]? = some ⟨some d, .load t x, ty, pos, af, g⟩) (hg : Zv ops E g = true) (hd : Nat.ble (d + 1) C.n = true)
    (hx : ev E x = some (.pointer (some ⟨b, p.toNat, none⟩))) (hT : Xu C.P t = true) (hm : (some b, Obj.cells (arr (intC k) xs j).toArray T' fr) ∈ H)
    (kk : TQ C ops Q l ((d, .int k (xs.getD p.toNat 0)) :: E) H) : TQ C ops Q (i :: l) E H := TQ.ldI ho hg hd hx hT hm (Uu hp) kk
theorem TQ.ldFO {α : Type} {f : α → List Value} {s : Nat} {t T' : TypeId} {x : Operand} {b q : Nat} {p : Int} {xs : List α} {j : List Value} {fr : Nat × Nat} {v : Value} (dflt : α) (hf : ∀ x, (f x).length = s) (hp : inb p xs.length) (hv : (f (xs.getD p.toNat dflt))[q]? = some v)
    (ho : ops[i]? = some ⟨some d, .load t x, ty, pos, af, g⟩) (hg : Zv ops E g = true) (hd : Nat.ble (d + 1) C.n = true)
    (hx : ev E x = some (.pointer (some ⟨b, p.toNat * s + q, none⟩))) (hT : Xu C.P t = true) (hm : (some b, Obj.cells (arr f xs j).toArray T' fr) ∈ H)
    (kk : TQ C ops Q l ((d, v) :: E) H) : TQ C ops Q (i :: l) E H :=
  Yi ⟨ho, hg, hd, hx⟩ hT hm (by
    have hqs : q < s := by rw [← hf (xs.getD p.toNat dflt)]; exact (List.getElem?_eq_some_iff.1 hv).1
    have := Z07 hf dflt xs j p.toNat q (Uu hp) hqs
    rw [List.getElem?_toArray, this]; exact hv) kk
theorem Uh {t t2 : TypeId} {x y : Operand} {p q : Int} (h : i64ok (p + q)) (q0_ : ops[i]? = some ⟨some d, .binOp .add t x y t2, ty, pos, af, g⟩ ∧ Zv ops E g = true ∧ Nat.ble (d + 1) C.n = true ∧ ev E x = some (.int .i64 p) ∧ ev E y = some (.int .i64 q))
    (kk : TQ C ops Q l ((d, .int .i64 (p + q)) :: E) H) : TQ C ops Q (i :: l) E H := have ⟨ho, hg, hd, hx, hy⟩ := q0_; TQ.add ho hg hd hx hy h.1 h.2 kk
theorem Zc7 {t t2 : TypeId} {x y : Operand} {p q : Int} (h : i64ok (p - q)) (q0_ : ops[i]? = some ⟨some d, .binOp .sub t x y t2, ty, pos, af, g⟩ ∧ Zv ops E g = true ∧ Nat.ble (d + 1) C.n = true ∧ ev E x = some (.int .i64 p) ∧ ev E y = some (.int .i64 q))
    (kk : TQ C ops Q l ((d, .int .i64 (p - q)) :: E) H) : TQ C ops Q (i :: l) E H := have ⟨ho, hg, hd, hx, hy⟩ := q0_; TQ.sub ho hg hd hx hy h.1 h.2 kk
theorem Zee {t : TypeId} {x : Operand} {p : Int} (h : i64ok (-p)) (q0_ : ops[i]? = some ⟨some d, .unOp .neg t x, ty, pos, af, g⟩ ∧ Zv ops E g = true ∧ Nat.ble (d + 1) C.n = true ∧ ev E x = some (.int .i64 p)) (kk : TQ C ops Q l ((d, .int .i64 (-p)) :: E) H) : TQ C ops Q (i :: l) E H := have ⟨ho, hg, hd, hx⟩ := q0_; TQ.neg ho hg hd hx (by rw [Jd h.1 h.2]; exact kk)
theorem Uq {t : TypeId} {x : Operand} {b o : Nat} {cs : List Value} {v : Value} (hc : HB C.w0 C.M b cs) (q0_ : ops[i]? = some ⟨some d, .load t x, ty, pos, af, g⟩ ∧ Zv ops E g = true ∧ Nat.ble (d + 1) C.n = true ∧ ev E x = some (.pointer (some ⟨b, o, none⟩)) ∧ cs[o]? = some v) (hT : Xu C.P t = true)
    (kk : TQ C ops Q l ((d, v) :: E) H) : TQ C ops Q (i :: l) E H := have ⟨ho, hg, hd, hx, hv⟩ := q0_; TQ.load ho hg hd hx hT (fun w hi => hi.cell_old (hc.has o v hv) hc.far) kk
theorem Z2d {α : Type} {xs : List α} {t e : TypeId} {x y : Operand} {ob : Option Nat} {n c s : Nat} {k : IntKind} {p : Int} (hz : ob = none → c = 0) (hc : n ≤ c) (hn : xs.length = n) (hp : inb p xs.length)
    (q0_ : ops[i]? = some ⟨some d, .indexAddr t x y, ty, pos, af, g⟩ ∧ Zv ops E g = true ∧ Nat.ble (d + 1) C.n = true ∧ ev E x = some (.slice (sb ob) n c) ∧ ev E y = some (.int k p)) (ht : Xh C.P t = some e) (hs : Yq C.P e = some s)
    (kk : TQ C ops Q l ((d, .pointer (some (ea (sb ob) (p.toNat * s)))) :: E) H) : TQ C ops Q (i :: l) E H := by
  obtain ⟨ho, hg, hd, hx, hy⟩ := q0_
  obtain ⟨b, rfl⟩ := Ju hz hc hn hp
  exact TQ.ix0 hn hp ho hg hd hx hy ht hs (by rw [← Ga]; exact kk)
theorem Z30 {t T' : TypeId} {x : Operand} {ob : Option Nat} {n c : Nat} {k : IntKind} {p : Int} {xs : List Int} {j : List Value} {fr : Nat × Nat} (hz : ob = none → c = 0) (hc : n ≤ c) (hn : xs.length = n) (hp : inb p xs.length) (q0_ : ops[i]? = some ⟨some d, .load t x, ty, pos, af, g⟩ ∧ Zv ops E g = true ∧ Nat.ble (d + 1) C.n = true ∧ ev E x = some (.pointer (some (ea (sb ob) (p.toNat * 1))))) (hT : Xu C.P t = true) (hm : (ob, Obj.cells (arr (intC k) xs j).toArray T' fr) ∈ H)
    (kk : TQ C ops Q l ((d, .int k (xs.getD p.toNat 0)) :: E) H) : TQ C ops Q (i :: l) E H := by
  obtain ⟨ho, hg, hd, hx⟩ := q0_
  obtain ⟨b, rfl⟩ := Ju hz hc hn hp
  exact TQ.ldIO hp ho hg hd (by rw [← Ga, ← Nat.mul_one p.toNat]; exact hx) hT hm kk
end rules
end Go.Acq
namespace Go.Acq
open Go Go.RowKit
section rules
variable {C : Cx} {ops : Array Oper} {Q : Exit → Act → World → Prop} {l : List Nat} {E : Env} {H R : Heap} {i d : Nat} {ty : TypeId} {pos : String} {af : Array Edge} {g : Option (Nat × Bool)}
end rules
end Go.Acq
namespace Go.Acq
open Go Go.RowKit
section
variable {C : Cx} {Q : Exit → Act → World → Prop} {E : Env} {H : Heap} {c x y : Code}
end
end Go.Acq
namespace Go.Acq
open Go Go.RowKit
theorem Zh {α : Type} {x : α} {l : List α} : x ∈ x :: l := .head _
theorem Yy {α : Type} {a0 x : α} {l : List α} : x ∈ a0 :: x :: l := .tail _ Zh
theorem Xb {α : Type} {a0 a1 x : α} {l : List α} : x ∈ a0 :: a1 :: x :: l := .tail _ Yy
theorem Vv {α : Type} {a0 a1 a2 x : α} {l : List α} : x ∈ a0 :: a1 :: a2 :: x :: l := .tail _ Xb
theorem Jl {α : Type} {a0 a1 a2 a3 x : α} {l : List α} : x ∈ a0 :: a1 :: a2 :: a3 :: x :: l := .tail _ Vv
theorem mm5 {α : Type} {a0 a1 a2 a3 a4 x : α} {l : List α} : x ∈ a0 :: a1 :: a2 :: a3 :: a4 :: x :: l := .tail _ Jl
theorem mm6 {α : Type} {a0 a1 a2 a3 a4 a5 x : α} {l : List α} : x ∈ a0 :: a1 :: a2 :: a3 :: a4 :: a5 :: x :: l := .tail _ mm5
theorem mm7 {α : Type} {a0 a1 a2 a3 a4 a5 a6 x : α} {l : List α} : x ∈ a0 :: a1 :: a2 :: a3 :: a4 :: a5 :: a6 :: x :: l := .tail _ mm6
theorem mm8 {α : Type} {a0 a1 a2 a3 a4 a5 a6 a7 x : α} {l : List α} : x ∈ a0 :: a1 :: a2 :: a3 :: a4 :: a5 :: a6 :: a7 :: x :: l := .tail _ mm7
theorem Ku {α : Type} {a0 a1 a2 a3 a4 a5 a6 a7 a8 x : α} {l : List α} : x ∈ a0 :: a1 :: a2 :: a3 :: a4 :: a5 :: a6 :: a7 :: a8 :: x :: l := .tail _ mm8
theorem Rp {α : Type} {a0 a1 a2 a3 a4 a5 a6 a7 a8 a9 x : α} {l : List α} : x ∈ a0 :: a1 :: a2 :: a3 :: a4 :: a5 :: a6 :: a7 :: a8 :: a9 :: x :: l := .tail _ Ku
theorem Lm {α : Type} {a0 a1 a2 a3 a4 a5 a6 a7 a8 a9 a10 x : α} {l : List α} : x ∈ a0 :: a1 :: a2 :: a3 :: a4 :: a5 :: a6 :: a7 :: a8 :: a9 :: a10 :: x :: l := .tail _ Rp
theorem Jz {α : Type} {a0 a1 a2 a3 a4 a5 a6 a7 a8 a9 a10 a11 x : α} {l : List α} : x ∈ a0 :: a1 :: a2 :: a3 :: a4 :: a5 :: a6 :: a7 :: a8 :: a9 :: a10 :: a11 :: x :: l := .tail _ Lm
theorem Zb {x : Option Nat × Obj} {l : Heap} : Take x (x :: l) (l) := Take.head _ _
theorem Zp {a0 x : Option Nat × Obj} {l : Heap} : Take x (a0 :: x :: l) (a0 :: l) := Take.tail Zb
theorem Zy {a0 a1 x : Option Nat × Obj} {l : Heap} : Take x (a0 :: a1 :: x :: l) (a0 :: a1 :: l) := Take.tail Zp
theorem Yl {a0 a1 a2 x : Option Nat × Obj} {l : Heap} : Take x (a0 :: a1 :: a2 :: x :: l) (a0 :: a1 :: a2 :: l) := Take.tail Zy
theorem Wp {a0 a1 a2 a3 x : Option Nat × Obj} {l : Heap} : Take x (a0 :: a1 :: a2 :: a3 :: x :: l) (a0 :: a1 :: a2 :: a3 :: l) := Take.tail Yl
theorem Uv {a0 a1 a2 a3 a4 x : Option Nat × Obj} {l : Heap} : Take x (a0 :: a1 :: a2 :: a3 :: a4 :: x :: l) (a0 :: a1 :: a2 :: a3 :: a4 :: l) := Take.tail Wp
theorem Ke {a0 a1 a2 a3 a4 a5 x : Option Nat × Obj} {l : Heap} : Take x (a0 :: a1 :: a2 :: a3 :: a4 :: a5 :: x :: l) (a0 :: a1 :: a2 :: a3 :: a4 :: a5 :: l) := Take.tail Uv
theorem Gk {a0 a1 a2 a3 a4 a5 a6 x : Option Nat × Obj} {l : Heap} : Take x (a0 :: a1 :: a2 :: a3 :: a4 :: a5 :: a6 :: x :: l) (a0 :: a1 :: a2 :: a3 :: a4 :: a5 :: a6 :: l) := Take.tail Ke
theorem tk8 {a0 a1 a2 a3 a4 a5 a6 a7 x : Option Nat × Obj} {l : Heap} : Take x (a0 :: a1 :: a2 :: a3 :: a4 :: a5 :: a6 :: a7 :: x :: l) (a0 :: a1 :: a2 :: a3 :: a4 :: a5 :: a6 :: a7 :: l) := Take.tail Gk
theorem Kz {a0 a1 a2 a3 a4 a5 a6 a7 a8 x : Option Nat × Obj} {l : Heap} : Take x (a0 :: a1 :: a2 :: a3 :: a4 :: a5 :: a6 :: a7 :: a8 :: x :: l) (a0 :: a1 :: a2 :: a3 :: a4 :: a5 :: a6 :: a7 :: a8 :: l) := Take.tail tk8
theorem Vy {a0 a1 a2 a3 a4 a5 a6 a7 a8 a9 x : Option Nat × Obj} {l : Heap} : Take x (a0 :: a1 :: a2 :: a3 :: a4 :: a5 :: a6 :: a7 :: a8 :: a9 :: x :: l) (a0 :: a1 :: a2 :: a3 :: a4 :: a5 :: a6 :: a7 :: a8 :: a9 :: l) := Take.tail Kz
theorem Yz {a0 a1 a2 a3 a4 a5 a6 a7 a8 a9 a10 x : Option Nat × Obj} {l : Heap} : Take x (a0 :: a1 :: a2 :: a3 :: a4 :: a5 :: a6 :: a7 :: a8 :: a9 :: a10 :: x :: l) (a0 :: a1 :: a2 :: a3 :: a4 :: a5 :: a6 :: a7 :: a8 :: a9 :: a10 :: l) := Take.tail Vy
theorem tk12 {a0 a1 a2 a3 a4 a5 a6 a7 a8 a9 a10 a11 x : Option Nat × Obj} {l : Heap} : Take x (a0 :: a1 :: a2 :: a3 :: a4 :: a5 :: a6 :: a7 :: a8 :: a9 :: a10 :: a11 :: x :: l) (a0 :: a1 :: a2 :: a3 :: a4 :: a5 :: a6 :: a7 :: a8 :: a9 :: a10 :: a11 :: l) := Take.tail Yz
theorem tk13 {a0 a1 a2 a3 a4 a5 a6 a7 a8 a9 a10 a11 a12 x : Option Nat × Obj} {l : Heap} : Take x (a0 :: a1 :: a2 :: a3 :: a4 :: a5 :: a6 :: a7 :: a8 :: a9 :: a10 :: a11 :: a12 :: x :: l) (a0 :: a1 :: a2 :: a3 :: a4 :: a5 :: a6 :: a7 :: a8 :: a9 :: a10 :: a11 :: a12 :: l) := Take.tail tk12
theorem tk14 {a0 a1 a2 a3 a4 a5 a6 a7 a8 a9 a10 a11 a12 a13 x : Option Nat × Obj} {l : Heap} : Take x (a0 :: a1 :: a2 :: a3 :: a4 :: a5 :: a6 :: a7 :: a8 :: a9 :: a10 :: a11 :: a12 :: a13 :: x :: l) (a0 :: a1 :: a2 :: a3 :: a4 :: a5 :: a6 :: a7 :: a8 :: a9 :: a10 :: a11 :: a12 :: a13 :: l) := Take.tail tk13
theorem tk15 {a0 a1 a2 a3 a4 a5 a6 a7 a8 a9 a10 a11 a12 a13 a14 x : Option Nat × Obj} {l : Heap} : Take x (a0 :: a1 :: a2 :: a3 :: a4 :: a5 :: a6 :: a7 :: a8 :: a9 :: a10 :: a11 :: a12 :: a13 :: a14 :: x :: l) (a0 :: a1 :: a2 :: a3 :: a4 :: a5 :: a6 :: a7 :: a8 :: a9 :: a10 :: a11 :: a12 :: a13 :: a14 :: l) := Take.tail tk14
theorem Gone.refl (R : Heap) : List.Perm R ([] ++ R) := List.Perm.refl R
section rules
variable {C : Cx} {ops : Array Oper} {Q : Exit → Act → World → Prop} {l : List Nat} {E : Env} {H R : Heap} {i d : Nat} {ty : TypeId} {pos : String} {af : Array Edge} {g : Option (Nat × Bool)}
theorem TO.nilCheck {x : Operand} {p : Addr} (q0_ : ops[i]? = some ⟨some d, .nilCheck x, ty, pos, af, g⟩ ∧ Zv ops E g = true ∧ Nat.ble (d + 1) C.n = true ∧ ev E x = some (.pointer (some p)))
    (k : TO C ops Q l ((d, .pointer (some p)) :: E) H) : TO C ops Q (i :: l) E H := have ⟨ho, hg, hd, hx⟩ := q0_;
  TO.val ho hg hd (by simp) (fun a w hf _ => by simp [execOp, hf.ev hx]) k
end rules
section rules
variable {C : Cx} {ops : Array Oper} {Q : Act → Prop} {l : List Nat} {E : Env} {H R : Heap} {i d : Nat} {ty : TypeId} {pos : String} {af : Array Edge} {g : Option (Nat × Bool)}
theorem TQ.nilCheck {x : Operand} {p : Addr} (q0_ : ops[i]? = some ⟨some d, .nilCheck x, ty, pos, af, g⟩ ∧ Zv ops E g = true ∧ Nat.ble (d + 1) C.n = true ∧ ev E x = some (.pointer (some p)))
    (k : TQ C ops Q l ((d, .pointer (some p)) :: E) H) : TQ C ops Q (i :: l) E H := have ⟨ho, hg, hd, hx⟩ := q0_;
  TQ.val ho hg hd (by simp) (fun a w hf _ => by simp [execOp, hf.ev hx]) k
end rules
section draw
variable {C : Cx} {ops : Array Oper} {Q : Exit → Act → World → Prop} {E : Env} {H : Heap}
theorem Z1e {A B Tl : Heap} (X Hx : Heap) : List.Perm (X ++ ((A ++ Tl) ++ (B ++ Hx))) (X ++ (A ++ (B ++ (Tl ++ Hx)))) := by
 refine List.Perm.append_left X ?_
 rw [List.append_assoc]
 refine List.Perm.append_left A ?_
 rw [← List.append_assoc, ← List.append_assoc]
 exact List.Perm.append_right Hx List.perm_append_comm
theorem ObQ.tail {S : List Sp} {W : Env} {Hc : Heap} {i : Nat} (Tl : Heap) (h : ObQ C ops Q S W Hc i) : ObQ C ops Q S W (Hc ++ Tl) i := by
 intro vs es Es Hx hr a w hf hi
 refine Z17 (l2 := []) (fun e a w hne hq => ?_) (fun a w hq => ?_) [i] a w (h vs es Es (Tl ++ Hx) hr a w hf (hi.perm (Z1e [] Hx)))
 · cases e <;> first | exact absurd rfl hne | exact hq
 ·
  obtain ⟨v, e', h1, h2, h3⟩ := hq
  exact ⟨v, e', h1, h2, h3.perm (Z1e e' Hx).symm⟩
theorem ObE.tail {S : List Sp} {HR : Nat → List Value → Heap → Prop} {hd : List (List Nat)} {W : Env} {Hc : Heap} {i : Nat} (Tl : Heap) (h : ObE C ops Q S HR hd W Hc i) : ObE C ops Q S HR hd W (Hc ++ Tl) i := by
 intro vs es Es Hx hb hr hh a w hf hi
 refine Z17 (l2 := []) (fun e a w hne hq => ?_) (fun a w hq => ?_) [i] a w (h vs es Es (Tl ++ Hx) hb hr hh a w hf (hi.perm (Z1e hb Hx)))
 · cases e <;> first | exact absurd rfl hne | exact hq
 ·
  obtain ⟨v, hb', h1, h2, h3, h4⟩ := hq
  exact ⟨v, hb', h1, h2, h3, h4.perm (Z1e hb' Hx).symm⟩
theorem ObsG.tail {S : List Sp} {HR : Nat → List Value → Heap → Prop} {hd : List (List Nat)} {W : Env} {Hc : Heap} (Tl : Heap) : ∀ {l : List Nat}, ObsG C ops Q S HR hd W Hc l → ObsG C ops Q S HR hd W (Hc ++ Tl) l
 | [], _ => trivial
 | i :: l, ⟨h1, h2⟩ => by
  refine ⟨?_, ObsG.tail Tl h2⟩
  cases he : Wi S i with
  | true => rw [he] at h1; exact ObE.tail Tl h1
  | false => rw [he] at h1; exact ObQ.tail Tl h1
end draw
end Go.Acq
namespace Go.Acq
open Go Go.RowKit
section
variable {C : Cx} {ops : Array Oper} {Q : Exit → Act → World → Prop} {l : List Nat} {i d : Nat} {E : Env} {H : Heap} {ty : TypeId} {pos : String} {af : Array Edge} {g : Option (Nat × Bool)}
theorem TO.shl1 {t t2 : TypeId} {x y : Operand} {q : IntKind} {p : Int} (h : i64ok (p * 2)) (q0_ : ops[i]? = some ⟨some d, .binOp .shl t x y t2, ty, pos, af, g⟩ ∧ Zv ops E g = true ∧ Nat.ble (d + 1) C.n = true ∧ ev E x = some (.int .i64 p) ∧ ev E y = some (.int q 1))
    (kk : TO C ops Q l ((d, .int .i64 (p * 2)) :: E) H) : TO C ops Q (i :: l) E H := have ⟨ho, hg, hd, hx, hy⟩ := q0_;
  TO.val ho hg hd (by simp) (fun a w hf _ => by
    have e : p * 2 ^ min 1 IntKind.i64.bits = p * 2 := by rw [show min 1 IntKind.i64.bits = 1 from rfl]; omega
    simp [execOp, hf.ev hx, hf.ev hy, eqGuard_at_int, binOp, Op.shift, e, Jd h.1 h.2]) kk
end
end Go.Acq
namespace Go.Acq
open Go
structure Chan where
  cap : Nat
  buf : List Int
  deriving DecidableEq
instance : Inhabited Chan := ⟨⟨0, []⟩⟩
def Chan.put (x : Chan) (v : Int) : Chan := ⟨x.cap, x.buf ++ [v]⟩
def Chan.cut (x : Chan) : Chan := ⟨x.cap, x.buf.tail⟩
end Go.Acq
namespace Go.Acq
open Go Go.RowKit Go.Conc
def wpK (P : Program) (c : Code) (Q : Exit → Act → World → Prop) (a : Act) (w : World) : Prop :=
  ∀ (b : Frame) (k : List Item) (cs : List Frame), b.kind ≠ .early → b.roundOf = none →
    ∃ e a' w', Q e a' w' ∧ ArrivesIn (Machine.fenced P (FW none)) P (lone (b.atR a (.code c :: k)) cs w) b k cs e a' w'
def wpOK (P : Program) (ops : Array Oper) (Q : Exit → Act → World → Prop) (l : List Nat) (a : Act) (w : World) : Prop :=
  ∀ (b : Frame) (k : List Item) (cs : List Frame), b.kind ≠ .early → b.roundOf = none →
    ∃ e a' w', Q e a' w' ∧ ArrivesIn (Machine.fenced P (FW none)) P (lone (b.atR a (.inRegion ops l :: k)) cs w) b k cs e a' w'
def TK (C : Cx) (c : Code) (Q : Exit → Act → World → Prop) (E : Env) (H : Heap) : Prop := ∀ a w, Fits C.n C.D E a → Inv C.w0 C.M w H → wpK C.P c Q a w
def TOK (C : Cx) (ops : Array Oper) (Q : Exit → Act → World → Prop) (l : List Nat) (E : Env) (H : Heap) : Prop := ∀ a w, Fits C.n C.D E a → Inv C.w0 C.M w H → wpOK C.P ops Q l a w
theorem Lo (n : Nat) : (FW none).room n := fun d hd => by cases hd
section
variable {C : Cx} {Q : Exit → Act → World → Prop} {E E' : Env} {H H' R : Heap} {x y c : Code} {ops : Array Oper} {l : List Nat} {i d : Nat} {ty : TypeId} {pos : String} {af : Array Edge} {g : Option (Nat × Bool)}
theorem TK.ofT (hρ : C.ρ = none) (h : T C c Q E H) : TK C c Q E H := fun a w hf hi b k cs _ hro => by
 have := h a w hf hi
 rw [hρ] at this
 exact this b k cs hro trivial (Lo _)
theorem TK.seq (h : TK C x (Exit.then (wpK C.P y Q) Q) E H) : TK C (.seq x y) Q E H := fun a w hf hi b k cs hk hro => by
 have h0 : (lone (b.atR a (.code (.seq x y) :: k)) cs w).fenced C.P (FW none) := fenced_calm trivial (Lo (cs.length + 1 + 0)) rfl
 obtain ⟨e, a₁, w₁, hq, harr⟩ := h a w hf hi b (.code y :: k) cs hk hro
 cases e with
 | normal =>
  obtain ⟨e₂, a₂, w₂, hq₂, harr₂⟩ := hq b k cs hk hro
  exact ⟨e₂, a₂, w₂, hq₂, .of_steps (.head h0 stepR_seq harr) harr₂⟩
 | exit id => exact ⟨_, a₁, w₁, hq, .of_steps (.one h0 stepR_seq) (.pass (x := .code y) rfl (fun _ _ => .inl (by simp)) harr)⟩
 | goto l => exact ⟨_, a₁, w₁, hq, .of_steps (.one h0 stepR_seq) (.pass (x := .code y) rfl (fun _ _ => .inl (by simp)) harr)⟩
 | ret => exact ⟨_, a₁, w₁, hq, .of_steps (.one h0 stepR_seq) (.pass (x := .code y) rfl (fun _ _ => .inl (by simp)) harr)⟩
 | panic ch => exact ⟨_, a₁, w₁, hq, .of_steps (.one h0 stepR_seq) (.pass (x := .code y) rfl (fun _ _ => .inl (by simp)) harr)⟩
 | outgrown => exact ⟨_, a₁, w₁, hq, .of_steps (.one h0 stepR_seq) (.pass (x := .code y) rfl (fun _ _ => .inl (by simp)) harr)⟩
theorem TK.block {id : Nat} (h : TK C c (Exit.inBlock id Q) E H) : TK C (.block id c) Q E H := fun a w hf hi b k cs hk hro => by
 have h0 : (lone (b.atR a (.code (.block id c) :: k)) cs w).fenced C.P (FW none) := fenced_calm trivial (Lo (cs.length + 1 + 0)) rfl
 obtain ⟨e, a₁, w₁, hq, harr⟩ := h a w hf hi b (.inBlock id :: k) cs hk hro
 cases e with
 | normal => exact ⟨.normal, a₁, w₁, hq, .head h0 stepR_block (StepsIn.trans harr (.one (fenced_calm trivial (Lo (cs.length + 1 + 0)) rfl) stepR_inBlock))⟩
 | exit id' =>
  by_cases hid : id' = id
  ·
   simp only [Exit.inBlock, hid, if_true] at hq
   exact ⟨.normal, a₁, w₁, hq, .head h0 stepR_block (harr.1 k (by simp [exitTo, hid]))⟩
  ·
   simp only [Exit.inBlock, hid, if_false] at hq
   have this : (id == id') = false := by simp; exact fun h => hid h.symm
   have hx : exitTo id' (.inBlock id :: k) = exitTo id' k := by simp [exitTo, this]
   exact ⟨.exit id', a₁, w₁, hq, fun k' hk => .head h0 stepR_block (harr.1 k' (by rw [hx]; exact hk)),
    fun hr' hk => let ⟨k₁, h1, h2⟩ := harr.2 hr' (by rw [hx]; exact hk); ⟨k₁, h1, .head h0 stepR_block h2⟩⟩
 | goto l =>
  have hx : gotoIn l (.inBlock id :: k) = gotoIn l k := by simp [gotoIn]
  exact ⟨_, a₁, w₁, hq, fun k' hk => .head h0 stepR_block (harr.1 k' (by rw [hx]; exact hk)),
   fun hr' hk => let ⟨k₁, h1, h2⟩ := harr.2 hr' (by rw [hx]; exact hk); ⟨k₁, h1, .head h0 stepR_block h2⟩⟩
 | ret => exact ⟨_, a₁, w₁, hq, .of_steps (.one h0 stepR_block) harr⟩
 | panic ch => exact ⟨_, a₁, w₁, hq, .of_steps (.one h0 stepR_block) harr⟩
 | outgrown => exact ⟨_, a₁, w₁, hq, .of_steps (.one h0 stepR_block) harr⟩
theorem Zei {o : Operand} {t : Bool} (ho : ev E o = some (.bool t)) (h : TK C (if t then x else y) Q E H) : TK C (.cond o x y) Q E H := fun a w hf hi b k cs hk hro =>
 let ⟨e, a', w', q, r⟩ := h a w hf hi b k cs hk hro; ⟨e, a', w', q, .of_steps (.one (fenced_calm trivial (Lo (cs.length + 1 + 0)) rfl) (stepR_cond (hf.ev ho))) r⟩
theorem TK.condT {o : Operand} {b : Bool} (ho : ev E o = some (.bool b)) (hb : b = true) (ht : TK C x Q E H) : TK C (.cond o x y) Q E H := by subst hb; exact Zei ho ht
theorem TK.condF {o : Operand} {b : Bool} (ho : ev E o = some (.bool b)) (hb : b = false) (ht : TK C y Q E H) : TK C (.cond o x y) Q E H := by subst hb; exact Zei ho ht
theorem TK.condPT {o : Operand} {p : Prop} {hp : Decidable p} (ho : ev E o = some (.bool (@decide p hp))) (hb : p) (ht : TK C x Q E H) : TK C (.cond o x y) Q E H := TK.condT ho (decide_eq_true hb) ht
theorem TK.condPF {o : Operand} {p : Prop} {hp : Decidable p} (ho : ev E o = some (.bool (@decide p hp))) (hb : ¬p) (ht : TK C y Q E H) : TK C (.cond o x y) Q E H := TK.condF ho (decide_eq_false hb) ht
theorem TK.skip (hρ : C.ρ = none) (h : X C Q .normal E H) : TK C .skip Q E H := TK.ofT hρ (T.skip h)
theorem TK.ret (hρ : C.ρ = none) (h : X C Q .ret E H) : TK C .ret Q E H := TK.ofT hρ (T.ret h)
theorem TK.weak (h : TK C c Q E' H') (hE : ∀ t v, find E' t = some v → find E t = some v) (hH : Pick H' H) : TK C c Q E H := fun a w hf hi => h a w (hf.weak hE) (hi.pick hH)
theorem TK.trim (h : AllF E' E) (k : TK C c Q E' H) : TK C c Q E H := fun a w hf hi => k a w (hf.weak fun t v hv => h.sub t v hv) hi
theorem TK.region {id : Nat} {ll : List Nat} (hl : List.range ops.size = ll) (h : TOK C ops Q ll E H) : TK C (.region id ops false) Q E H := fun a w hf hi b k cs hk hro => by
 subst hl
 exact let ⟨e, a', w', q, r⟩ := h a w hf hi b k cs hk hro; ⟨e, a', w', q, .of_steps (.one (fenced_calm trivial (Lo (cs.length + 1 + 0)) rfl) stepR_region) r⟩
theorem wpQ_K {P : Program} {K : World → Prop} (l2 : List Nat) (l : List Nat) : ∀ a : Act, Kq P ops K (fun a => ∀ w, K w → wpOK P ops Q l2 a w) l a → ∀ w, K w → wpOK P ops Q (l ++ l2) a w := by
 induction l with
 | nil => exact fun a h w hw => h w hw
 | cons i rest ih =>
  intro a h w hw b k cs hk hro
  have hb : (FW none).fn b.fn := trivial
  have hr := Lo (cs.length + 1 + 0)
  simp only [Kq] at h
  show ∃ e a' w', Q e a' w' ∧ ArrivesIn (Machine.fenced P (FW none)) P (lone (b.atR a (.inRegion ops (i :: (rest ++ l2)) :: k)) cs w) b k cs e a' w'
  cases ho : ops[i]? with
  | none =>
   simp only [ho] at h
   obtain ⟨e, a', w', hq, harr⟩ := ih a h w hw b k cs hk hro
   have hs := stepR_op_skip (P := P) (b := b) (a := a) (k := k) (cs := cs) (w := w) (ops := ops) (i := i) (rest := rest ++ l2) (by simp [ho])
   simp only [ho, Option.bind_none, Act.put] at hs
   exact ⟨e, a', w', hq, .of_steps (.one (fenced_noOper hb hr ho) hs) harr⟩
  | some o =>
   simp only [ho] at h
   obtain ⟨hnd, hns, h⟩ := h
   have h0 : (lone (b.atR a (.inRegion ops (i :: (rest ++ l2)) :: k)) cs w).fenced P (FW none) := fenced_oper hb hr ho (fun _ _ => trivial)
   by_cases hx : Region.wanted o (yielded ops a.tmps) = true
   ·
    rw [if_pos hx] at h
    obtain ⟨v, h1, h2⟩ := h
    have h1 := h1 w hw
    generalize he : (execOp a.eval o).run P w = z at h1
    unfold Jq at h1
    split at h1
    ·
     obtain ⟨rfl, rfl⟩ := h1
     obtain ⟨e, a', w', hq, harr⟩ := ih _ h2 _ hw b k cs hk hro
     refine ⟨e, a', w', hq, .of_steps (.one h0 ?_) harr⟩
     rw [Frame.atR_of_none hro, Frame.atR_of_none hro]
     exact step_solo_go rfl (stepG_value ho hx hk he)
    ·
     obtain ⟨rfl, h1⟩ := h1
     rename_i f args w0
     obtain ⟨e, w'', fr, ⟨rfl, hw''⟩, hsteps, hfn, hleave⟩ := ((callsIn_FW (ρ := none) (n := 0)).2 h1).2 (b.atR a (.inRegion ops (i :: (rest ++ l2)) :: k) :: cs) (Lo _)
     have henter : step P (lone (b.atR a (.inRegion ops (i :: (rest ++ l2)) :: k)) cs w0) = .next (lone (Frame.enter P f args .normal) (b.atR a (.inRegion ops (i :: (rest ++ l2)) :: k) :: cs) w0) :=
      step_lone_go (by rw [stepGR_op ho hx, Oper.semAt_eq _ _ _ hnd]; simp [stepG.apply, he, Frame.atR])
     have hl : (lone fr (b.atR a (.inRegion ops (i :: (rest ++ l2)) :: k) :: cs) w'').fenced P (FW none) := fenced_leaving (n := 0) trivial (Lo _) hleave
     obtain ⟨e, a', w₃, hq, harr⟩ := ih _ h2 _ hw'' b k cs hk hro
     refine ⟨e, a', w₃, hq, .of_steps (.head h0 henter (StepsIn.trans hsteps (.one hl ?_))) harr⟩
     have hfin : (b.atR a (.inRegion ops (i :: (rest ++ l2)) :: k)).finish v = b.atR (a.put o.dst v) (.inRegion ops (rest ++ l2) :: k) := by rw [Frame.finish_atR, ho]; rfl
     rw [← hfin]; exact step_leave_returned hleave
    · exact h1.elim
   ·
    rw [if_neg hx] at h
    obtain ⟨e, a', w', hq, harr⟩ := ih _ h w hw b k cs hk hro
    have hs := stepR_op_skip (P := P) (b := b) (a := a) (k := k) (cs := cs) (w := w) (ops := ops) (i := i) (rest := rest ++ l2) (by simp [ho]; simpa using hx)
    simp only [ho, Option.bind_some] at hs
    exact ⟨e, a', w', hq, .of_steps (.one h0 hs) harr⟩
theorem TOK.pre (l1 l2 : List Nat) {l : List Nat} (hl : l1 ++ l2 = l) (h : TQ C ops (fun a => ∀ w, Inv C.w0 C.M w H → wpOK C.P ops Q l2 a w) l1 E H) : TOK C ops Q l E H := fun a w hf hi => by
 subst hl
 exact wpQ_K l2 l1 a (h a hf) w hi
theorem Lj {t T' : TypeId} {x : Operand} {b o k : Nat} {cs vs : List Value} {fr : Nat × Nat} (q0_ : ops[i]? = some ⟨some d, .load t x, ty, pos, af, g⟩ ∧ Zv ops E g = true ∧ Nat.ble (d + 1) C.n = true ∧ ev E x = some (.pointer (some ⟨b, o, none⟩))) (hT : Wg C.P t k = true) (hm : (some b, Obj.cells cs.toArray T' fr) ∈ H) (q1_ : (cs.drop o).take k = vs ∧ vs.length = k)
    (kk : TO C ops Q l ((d, .agg vs.toArray) :: E) H) : TO C ops Q (i :: l) E H := have ⟨ho, hg, hd, hx⟩ := q0_; have ⟨hv, hk⟩ := q1_;
  Z1k ho hg hd hx hT hk (fun w hi j v hj => by
    rw [Addr.add_mid, hi.cell_own hm]
    subst hv
    rw [List.getElem?_take] at hj
    split at hj
    · rw [List.getElem?_drop] at hj; simpa using hj
    · cases hj) kk
end
end Go.Acq
namespace Go.Acq
open Go Go.RowKit
def eqFs (P : Program) : List Field → List IntKind → Nat → Bool
  | [], [], _ => true
  | f :: fs, k :: ks, o => f.name != "_" && Nat.beq f.offset o && (match P.underlying f.type with | some (.int q) => decide (q = k) | _ => false) && eqFs P fs ks (o + 1)
  | _, _, _ => false
def eqsT (P : Program) (t : TypeId) (ks : List IntKind) : Bool :=
  (match P.underlying t with | some (.struct fs) => eqFs P fs.toList ks 0 | _ => false) && !P.stoodInHeld t && !P.eqGuardType P.depth t
theorem Zg4 {P : Program} {w : World} {n : Nat} {xs ys : Array Value} : ∀ (fs : List Field) (ks : List IntKind) (o : Nat) (us ws : List Int), eqFs P fs ks o = true → us.length = ks.length → ws.length = ks.length →
    (∀ i, i < ks.length → xs[o + i]? = some (.int (ks.getD i .i64) (us.getD i 0)) ∧ ys[o + i]? = some (.int (ks.getD i .i64) (ws.getD i 0))) → (Op.eqFields (n + 1) xs ys fs).run P w = .ok (decide (us = ws)) w
  | [], [], _, [], [], _, _, _, _ => by simp [Op.eqFields]
  | f :: fs, k :: ks, o, a :: us, b :: ws, h, ha, hb, hx => by
    simp only [eqFs, Bool.and_eq_true, bne_iff_ne, ne_eq] at h
    obtain ⟨⟨⟨h1, h2⟩, h3⟩, h4⟩ := h
    have h2 : f.offset = o := Nat.eq_of_beq_eq_true h2
    split at h3
    · rename_i q hq
      have h3 : q = k := of_decide_eq_true h3
      subst h3
      have h0 := hx 0 (by simp)
      simp only [Nat.add_zero, List.getD_cons_zero] at h0
      have ih := Zg4 (w := w) (n := n) fs ks (o + 1) us ws h4 (by simpa using ha) (by simpa using hb) (fun i hi => by
        have := hx (i + 1) (by simpa using hi)
        simp only [List.getD_cons_succ] at this
        rwa [show o + 1 + i = o + (i + 1) by omega])
      have hagg : ∀ w, (isAgg f.type).run P w = .ok false w := fun w => by simp [isAgg, run_underlying hq]
      have hp : ∀ (cs : Array Value) v, cs[f.offset]? = some v → ∀ w, (part f.type cs f.offset).run P w = .ok v w := fun cs v hv w => by
        simp [part, hagg, hv]
      rw [← h2] at h0
      simp only [Op.eqFields, h1, not_false_eq_true, ne_eq, if_true]
      simp only [Sem.run_bind, hp _ _ h0.1, hp _ _ h0.2, Result.andThen_ok, run_equalIn_int w n f.type q q a b hq]
      by_cases hab : a = b
      · subst hab
        simp [ih]
      · simp [hab]
    · cases h3
section rules
variable {C : Cx} {ops : Array Oper} {Q : Exit → Act → World → Prop} {l : List Nat} {E : Env} {H R : Heap} {i d : Nat} {ty : TypeId} {pos : String} {af : Array Edge} {g : Option (Nat × Bool)}
theorem eqsT_run {P : Program} {t : TypeId} {ks : List IntKind} {us ws : List Int} (h : eqsT P t ks = true) (ha : us.length = ks.length) (hb : ws.length = ks.length) (w : World) :
    (Op.equal t (.agg ((ks.zip us).map fun p => Value.int p.1 p.2).toArray) (.agg ((ks.zip ws).map fun p => Value.int p.1 p.2).toArray)).run P w = .ok (decide (us = ws)) w := by
  simp only [eqsT, Bool.and_eq_true, Bool.not_eq_true'] at h
  obtain ⟨⟨h1, h2⟩, h3⟩ := h
  split at h1
  · rename_i fs hfs
    have hf : P.fieldsOf t = fs := by simp [Program.fieldsOf, hfs]
    have key : ∀ (cs : List Int), cs.length = ks.length → ∀ i, i < ks.length → (((ks.zip cs).map fun p => Value.int p.1 p.2).toArray)[0 + i]? = some (.int (ks.getD i .i64) (cs.getD i 0)) := fun cs hc i hi => by
      have e1 : ks[i]? = some (ks.getD i .i64) := by simp [List.getD_eq_getElem?_getD, hi]
      have e2 : cs[i]? = some (cs.getD i 0) := by simp [List.getD_eq_getElem?_getD, hc, hi]
      rw [Nat.zero_add, List.getElem?_toArray, List.getElem?_map, List.zip, List.getElem?_zipWith, e1, e2]
      rfl
    show (Op.equalIn (9999 + 1) t _ _).run P w = _
    rw [run_equalIn_agg w 9999 t _ _ (by rw [hf]; exact hfs) h2, hf]
    exact Zg4 (n := 9998) fs.toList ks 0 us ws h1 ha hb fun i hi => ⟨key us ha i hi, key ws hb i hi⟩
  · cases h1
end rules
end Go.Acq
namespace Go.Acq
open Go Go.RowKit
section
variable {α : Type} {w0 w : World} {M M' : List Nat} {f : α → List Value} {s n c : Nat} {base : Option Addr} {xs ys : List α} {ob : Option Nat} {j : List Value} {H Hm R : Heap} {T' : TypeId} {fr : Nat × Nat}
def Seen (w0 : World) (M : List Nat) (f : α → List Value) (s : Nat) (base : Option Addr) (n c : Nat) (xs ys : List α) (ob : Option Nat) : Prop :=
  (base = sb ob ∧ ys = xs ∧ xs.length = n ∧ n ≤ c ∧ (ob = none → c = 0)) ∨ RS w0 M f s base n c xs
theorem Seen.own (hn : xs.length = n) (hc : n ≤ c) (hz : ob = none → c = 0) : Seen w0 M f s (sb ob) n c xs xs ob := .inl ⟨rfl, rfl, hn, hc, hz⟩
theorem Seen.ro (h : RS w0 M f s base n c xs) : Seen w0 M f s base n c xs [] none := .inr h
theorem Seen.len (h : Seen w0 M f s base n c xs ys ob) : xs.length = n := h.elim (fun h => h.2.2.1) (fun h => h.len)
theorem Seen.cap (h : Seen w0 M f s base n c xs ys ob) : n ≤ c := h.elim (fun h => h.2.2.2.1) (fun h => h.cap)
theorem Seen.nil (h : Seen w0 M f s base n c xs ys ob) (hb : base = none) : n = 0 := by
 rcases h with ⟨h1, h2, h3, h4, h5⟩ | h
 ·
  cases ob with
  | none => have := h5 rfl; omega
  | some b => rw [h1] at hb; cases hb
 · exact h.ro.nil hb
theorem Seen.rs (h : Seen w0 M f s base n c xs ys ob) (hf : ∀ x, (f x).length = s) (hi : Inv w0 M w H) (hm : (ob, Obj.cells (arr f ys j).toArray T' fr) ∈ H) : RS w [] f s base n c xs := by
 rcases h with ⟨rfl, rfl, h3, h4, h5⟩ | h
 · exact hi.rs hf hm h3 h4 h5
 · exact h.mono hi
theorem Seen.rsM (h : Seen w0 M f s base n c xs ys ob) (hf : ∀ x, (f x).length = s) (hs : 0 < s) (hi : Inv w0 M w H) (hp : List.Perm H (Hm ++ R)) (hM : Hm.filterMap (·.1) = M') (hm : (ob, Obj.cells (arr f ys j).toArray T' fr) ∈ R) : RS w M' f s base n c xs := by
 rcases h with ⟨rfl, rfl, h3, h4, h5⟩ | h
 · exact hi.rsM hf hp hM hm h3 h4 h5
 · exact h.monoM hs hi hp hM
end
section rules
variable {C : Cx} {ops : Array Oper} {Q : Exit → Act → World → Prop} {l : List Nat} {E : Env} {H R : Heap} {i d : Nat} {ty : TypeId} {pos : String} {af : Array Edge} {g : Option (Nat × Bool)}
end rules
end Go.Acq
namespace Go.Acq
def Kh {α : Type} (z : α) (k : Int × Int) : List ((Int × Int) × α) → α
  | [] => z
  | x :: xs => if k = x.1 then x.2 else Kh z k xs
end Go.Acq
namespace Go.Acq
open Go Go.RowKit
section
variable {α : Type} {q : IntKind} {f : α → Value} {k : Int × Int} {z v : α}
end
section
variable {P : Program} {w : World} {kt i : TypeId} {q : IntKind}
end
section rules
variable {C : Cx} {ops : Array Oper} {Q : Exit → Act → World → Prop} {l : List Nat} {E : Env} {H R : Heap} {i d : Nat} {ty : TypeId} {pos : String} {af : Array Edge} {g : Option (Nat × Bool)}
variable {α : Type} {q : IntKind} {f : α → Value}
end rules
end Go.Acq
namespace Go.Acq
open Go
end Go.Acq
namespace Go.Acq
open Go Go.RowKit
section rules
variable {C : Cx} {ops : Array Oper} {Q : Exit → Act → World → Prop} {l : List Nat} {E : Env} {H R : Heap} {i d : Nat} {ty : TypeId} {pos : String} {af : Array Edge} {g : Option (Nat × Bool)}
abbrev iC := intC .i64
abbrev eA {α : Type} (o : Option Nat) (f : α → List Value) (x : List α) (j : List Value) (t : TypeId) : Option Nat × Obj := (o, .cells (arr f x j).toArray t)
abbrev eI (o : Option Nat) (x : List Int) (j : List Value) (t : TypeId) : Option Nat × Obj := (o, .cells (arr (intC .i64) x j).toArray t)
abbrev eC (b : Nat) (c : Array Value) (t : TypeId) : Option Nat × Obj := (some b, .cells c t)
abbrev iV (x : Int) : Value := .int .i64 x
abbrev sV (a : Option Nat) (b c : Nat) : Value := .slice (sb a) b c
abbrev nV (a b c : Nat) : Value := .slice (some ⟨a, 0, none⟩) b c
abbrev pV (a : Nat) : Value := .pointer (some ⟨a, 0, none⟩)
theorem Vw {p q : Prop} [Decidable p] [Decidable q] {α : Type} {x : Option α} {r : α} (h : gd p (gd q x) = some r) : p ∧ q ∧ x = some r := have ⟨a, h⟩ := Yj h; ⟨a, Yj h⟩
theorem gd3 {p q s : Prop} [Decidable p] [Decidable q] [Decidable s] {α : Type} {x : Option α} {r : α} (h : gd p (gd q (gd s x)) = some r) : p ∧ q ∧ s ∧ x = some r := have ⟨a, h⟩ := Yj h; ⟨a, Vw h⟩
theorem gd4 {p q s t : Prop} [Decidable p] [Decidable q] [Decidable s] [Decidable t] {α : Type} {x : Option α} {r : α} (h : gd p (gd q (gd s (gd t x))) = some r) : p ∧ q ∧ s ∧ t ∧ x = some r := have ⟨a, h⟩ := Yj h; ⟨a, gd3 h⟩
theorem dN {C : Cx} {ops : Array Oper} {Q : Exit → Act → World → Prop} {E : Env} {H : Heap} {y : Code} (h : T C y Q E H) : TO C ops (Exit.then (y.wpIn (FW C.ρ) 0 C.P Q) Q) [] E H := h
theorem dS {C : Cx} {ops : Array Oper} {Q : Exit → Act → World → Prop} {E : Env} {H : Heap} {x y : Code} (h : T C x (Exit.then (y.wpIn (FW C.ρ) 0 C.P Q) Q) E H) : TO C ops (Exit.then ((Code.seq x y).wpIn (FW C.ρ) 0 C.P Q) Q) [] E H := dN (Zl h)
theorem rG {C : Cx} {ops : Array Oper} {Q : Exit → Act → World → Prop} {E : Env} {H : Heap} {id : Nat} (l : List Nat) (hl : List.range ops.size = l) (h : TO C ops Q l E H) : T C (.region id ops false) Q E H := Zdo hl h
theorem sR {C : Cx} {ops : Array Oper} {Q : Exit → Act → World → Prop} {E : Env} {H : Heap} {id : Nat} {y : Code} (l : List Nat) (hl : List.range ops.size = l) (h : TO C ops (Exit.then (y.wpIn (FW C.ρ) 0 C.P Q) Q) l E H) : T C (.seq (.region id ops false) y) Q E H := Zl (Zdo hl h)
theorem aN {C : Cx} {ops : Array Oper} {Q : Exit → Act → World → Prop} {E : Env} {H : Heap} {y : Code} {i d : Nat} {ty : TypeId} {pos : String} {af : Array Edge} {g : Option (Nat × Bool)} {x : Operand} {v : Value} (q : ops[i]? = some ⟨some d, .assign x, ty, pos, af, g⟩ ∧ Zv ops E g = true ∧ Nat.ble (d + 1) C.n = true ∧ ev E x = some v) (k : T C y Q ((d, v) :: E) H) : TO C ops (Exit.then (y.wpIn (FW C.ρ) 0 C.P Q) Q) [i] E H := have ⟨ho, hg, hd, hx⟩ := q; TO.val ho hg hd (by simp) (fun a w hf _ => by simp [execOp, hf.ev hx]) (dN k)
inductive TkI : Option Nat × Obj → Heap → Heap → Prop
  | head (p : Option Nat × Obj) (l : Heap) : TkI p (p :: l) l
  | tail {p q : Option Nat × Obj} {l r : Heap} (h : TkI p l r) : TkI p (q :: l) (q :: r)
inductive PkI : Heap → Heap → Prop
  | refl (H : Heap) : PkI H H
  | nil (H : Heap) : PkI [] H
  | none {o : Obj} {T H : Heap} (h : PkI T H) : PkI ((none, o) :: T) H
  | cons {p : Option Nat × Obj} {T H R : Heap} (h : TkI p H R) (k : PkI T R) : PkI (p :: T) H
theorem tkI {p : Option Nat × Obj} {H R : Heap} (h : TkI p H R) : Take p H R := by
  induction h with
  | head => exact Take.head _ _
  | tail _ ih => exact Take.tail ih
theorem Wo {T H : Heap} (h : PkI T H) : Pick T H := by
  induction h with
  | refl H => exact Yb H
  | nil H => exact Zg
  | none _ ih => exact Pick.none ih
  | cons h _ ih => exact Zc (tkI h) ih
theorem Uw {w0 w : World} {M : List Nat} {H : Heap} (hi : Inv w0 M w H) {n c : Nat} {xs : List Int} {ob : Option Nat} {T' : TypeId} {fr : Nat × Nat} {j : List Value} (hm : (ob, Obj.cells (arr (intC .i64) xs j).toArray T' fr) ∈ H) (hn : xs.length = n) (hc : n ≤ c) (h0 : ob = none → c = 0) : RS w [] (intC .i64) 1 (sb ob) n c xs := hi.rs (f := intC .i64) (s := 1) (fun _ => rfl) hm hn hc h0
abbrev rV (l : List Nat) (x : Value) : Sp := ⟨l, false, [], relV x⟩
def pkE : List Nat → Env → Option Env
  | [], _ => some []
  | t :: l, E => match find E t with
    | none => none
    | some v => match pkE l E with
      | none => none
      | some L => some ((t, v) :: L)
theorem aT {E : Env} : ∀ (l : List Nat) {L : Env}, pkE l E = some L → AllF L E
  | [], L, h => by injection h with h; subst h; exact Vu
  | t :: l, L, h => by
    simp only [pkE] at h
    split at h
    · cases h
    · rename_i v hv
      split at h
      · cases h
      · rename_i L' hL
        injection h with h
        subst h
        exact Zll hv (aT l hL)
theorem aF {L E : Env} (h : pkE (L.map Prod.fst) E = some L) : AllF L E := aT _ h
abbrev Y1 : List Nat := [0]
abbrev Y2 : List Nat := [0, 1]
abbrev Y3 : List Nat := [0, 1, 2]
abbrev Y4 : List Nat := [0, 1, 2, 3]
abbrev Y5 : List Nat := [0, 1, 2, 3, 4]
abbrev Y6 : List Nat := [0, 1, 2, 3, 4, 5]
abbrev Y7 : List Nat := [0, 1, 2, 3, 4, 5, 6]
abbrev Y8 : List Nat := [0, 1, 2, 3, 4, 5, 6, 7]
abbrev Y9 : List Nat := [0, 1, 2, 3, 4, 5, 6, 7, 8]
abbrev Y10 : List Nat := [0, 1, 2, 3, 4, 5, 6, 7, 8, 9]
abbrev Y11 : List Nat := [0, 1, 2, 3, 4, 5, 6, 7, 8, 9, 10]
abbrev Y12 : List Nat := [0, 1, 2, 3, 4, 5, 6, 7, 8, 9, 10, 11]
abbrev Y13 : List Nat := [0, 1, 2, 3, 4, 5, 6, 7, 8, 9, 10, 11, 12]
abbrev Y15 : List Nat := [0, 1, 2, 3, 4, 5, 6, 7, 8, 9, 10, 11, 12, 13, 14]
abbrev Y16 : List Nat := [0, 1, 2, 3, 4, 5, 6, 7, 8, 9, 10, 11, 12, 13, 14, 15]
abbrev Y18 : List Nat := [0, 1, 2, 3, 4, 5, 6, 7, 8, 9, 10, 11, 12, 13, 14, 15, 16, 17]
abbrev Y19 : List Nat := [0, 1, 2, 3, 4, 5, 6, 7, 8, 9, 10, 11, 12, 13, 14, 15, 16, 17, 18]
abbrev Y21 : List Nat := [0, 1, 2, 3, 4, 5, 6, 7, 8, 9, 10, 11, 12, 13, 14, 15, 16, 17, 18, 19, 20]
abbrev Y22 : List Nat := [0, 1, 2, 3, 4, 5, 6, 7, 8, 9, 10, 11, 12, 13, 14, 15, 16, 17, 18, 19, 20, 21]
abbrev Y24 : List Nat := [0, 1, 2, 3, 4, 5, 6, 7, 8, 9, 10, 11, 12, 13, 14, 15, 16, 17, 18, 19, 20, 21, 22, 23]
abbrev Y25 : List Nat := [0, 1, 2, 3, 4, 5, 6, 7, 8, 9, 10, 11, 12, 13, 14, 15, 16, 17, 18, 19, 20, 21, 22, 23, 24]
abbrev Y27 : List Nat := [0, 1, 2, 3, 4, 5, 6, 7, 8, 9, 10, 11, 12, 13, 14, 15, 16, 17, 18, 19, 20, 21, 22, 23, 24, 25, 26]
abbrev Y53 : List Nat := [0, 1, 2, 3, 4, 5, 6, 7, 8, 9, 10, 11, 12, 13, 14, 15, 16, 17, 18, 19, 20, 21, 22, 23, 24, 25, 26, 27, 28, 29, 30, 31, 32, 33, 34, 35, 36, 37, 38, 39, 40, 41, 42, 43, 44, 45, 46, 47, 48, 49, 50, 51, 52]
theorem Zfr {t : TypeId} {x : Operand} {b o k : Nat} {cs vs : List Value} (hc : HB C.w0 C.M b cs) (hv : (cs.drop o).take k = vs) (hk : vs.length = k) (ho : ops[i]? = some ⟨some d, .load t x, ty, pos, af, g⟩) (hg : Zv ops E g = true) (hd : Nat.ble (d + 1) C.n = true)
    (hx : ev E x = some (.pointer (some ⟨b, o, none⟩))) (hT : Wg C.P t k = true)
    (kk : TO C ops Q l ((d, .agg vs.toArray) :: E) H) : TO C ops Q (i :: l) E H :=
  Z1k ho hg hd hx hT hk (fun w hi j v hj => by
    rw [Addr.add_mid]
    subst hv
    rw [List.getElem?_take] at hj
    split at hj
    · rw [List.getElem?_drop] at hj; exact hi.cell_old (hc.has (o + j) v hj) hc.far
    · cases hj) kk
end rules
end Go.Acq
namespace Go.Acq
open Go Go.RowKit
def Kept (ob obK ob' : Option Nat) : Prop := obK = ob ∨ (obK = none ∧ ob' = ob)
section rules
variable {C : Cx} {ops : Array Oper} {Q : Exit → Act → World → Prop} {l : List Nat} {E : Env} {H R : Heap} {i d : Nat} {ty : TypeId} {pos : String} {af : Array Edge} {g : Option (Nat × Bool)}
theorem Kept.rs {α : Type} {w0 w : World} {M : List Nat} {f : α → List Value} {s n c n2 c2 : Nat} {ob obK ob' : Option Nat} {xs ys : List α} {j j' : List Value} {T T' : TypeId} {fr fr' : Nat × Nat} (h : Kept ob obK ob') (hi : Inv w0 M w H) (hf : ∀ x, (f x).length = s)
    (hm2 : (ob', Obj.cells (arr f (xs ++ ys) j').toArray T' fr') ∈ H) (hmK : (obK, Obj.cells (arr f xs j).toArray T fr) ∈ H) (hn2 : (xs ++ ys).length = n2) (hc2 : n2 ≤ c2) (h02 : ob' = none → c2 = 0) (hn : xs.length = n) (hc : n ≤ c) (h0 : ob = none → c = 0) : RS w [] f s (sb ob) n c xs := by
  rcases h with rfl | ⟨rfl, rfl⟩
  · exact hi.rs hf hmK hn hc h0
  · have h1 := hi.rs hf hm2 hn2 hc2 h02
    have h2 := h1.take (p := (n : Int)) ⟨Int.natCast_nonneg n, by rw [List.length_append]; omega⟩
    rw [Int.toNat_natCast, List.take_left' hn] at h2
    exact ⟨h2.ro, fun _ _ _ => by simp, hc⟩
end rules
end Go.Acq
namespace Go.Acq
open Go Go.RowKit
section
variable {C : Cx} {ops : Array Oper} {Q : Exit → Act → World → Prop} {E : Env} {H : Heap}
def ObsG2 (C : Cx) (ops : Array Oper) (Q : Exit → Act → World → Prop) (S : List Sp) (HR : Nat → List Value → Heap → Prop) (hd : List (List Nat)) (W : Env) (Hc : Heap) : List Nat → Prop
  | [] => True
  | i :: l => (cond (Wi S i) (ObE2 C ops Q S HR hd W Hc i) (ObQ C ops Q S W Hc i)) ∧ ObsG2 C ops Q S HR hd W Hc l
theorem ObsG2.get {S : List Sp} {HR : Nat → List Value → Heap → Prop} {hd : List (List Nat)} {W : Env} {Hc : Heap} : ∀ {l : List Nat}, ObsG2 C ops Q S HR hd W Hc l → ∀ i, i ∈ l → (cond (Wi S i) (ObE2 C ops Q S HR hd W Hc i) (ObQ C ops Q S W Hc i))
 | [], _, i, h => by cases h
 | j :: l, ⟨h1, h2⟩, i, h => by
  rcases List.mem_cons.1 h with rfl | h
  · exact h1
  · exact ObsG2.get h2 i h
theorem Zoq {S : List Sp} {HR : Nat → List Value → Heap → Prop} {hd : List (List Nat)} {W : Env} {Hc : Heap} : ∀ {l : List Nat}, ObsG2 C ops Q S HR hd W Hc l → ObsG3 C ops Q S HR hd [] W Hc l
 | [], _ => trivial
 | _ :: _, ⟨h1, h2⟩ => ⟨h1, Zoq h2⟩
end
end Go.Acq
namespace Go.Acq
open Go Go.RowKit
structure Qu {α : Type} (ob : Option Nat) (base : Option Addr) (n c : Nat) (xs ys : List α) (N C : Nat) : Prop where
  ex : ∃ o, o + n = N ∧ o + c = C ∧ xs = ys.drop o ∧ (0 < c → base = (sb ob).map (·.add o))
section
variable {α : Type} {ob : Option Nat} {base : Option Addr} {n c N C : Nat} {xs ys : List α} {w w0 : World} {M M' : List Nat} {H Hm R : Heap} {f : α → List Value} {j : List Value} {T' : TypeId} {fr : Nat × Nat}
theorem Qu.len (h : Qu ob base n c xs ys N C) (hn : ys.length = N) : xs.length = n := by
 obtain ⟨o, h1, _, rfl, _⟩ := h.ex
 rw [List.length_drop]; omega
theorem Qu.le (h : Qu ob base n c xs ys N C) (hc : N ≤ C) : n ≤ c := by
 obtain ⟨o, h1, h2, _, _⟩ := h.ex
 omega
theorem Zhy (ob : Option Nat) : (sb ob).map (·.add 0) = sb ob := by cases ob <;> rfl
theorem Qu.self (ob : Option Nat) (ys : List α) (N C : Nat) : Qu ob (sb ob) N C ys ys N C := ⟨0, by omega, by omega, rfl, fun _ => (Zhy ob).symm⟩
theorem Qu.drop (h : Qu ob base n c xs ys N C) {p : Int} (hp : 0 ≤ p ∧ p ≤ (xs.length : Int)) (hn : ys.length = N) (hc : N ≤ C) : Qu ob (Ny base p.toNat c 1) (n - p.toNat) (c - p.toNat) (xs.drop p.toNat) ys N C := by
 have hl := h.len hn
 have hle := h.le hc
 obtain ⟨o, h1, h2, rfl, h4⟩ := h.ex
 refine ⟨o + p.toNat, by omega, by omega, by rw [List.drop_drop], fun h5 => ?_⟩
 unfold Ny
 rw [if_neg (by omega), h4 (by omega)]
 cases ob with
 | none => rfl
 | some b => simp [Addr.add_lit]
theorem Qu.nil (h : Qu ob base n c xs ys N C) (hc : N ≤ C) (hz : ob = none → C = 0) : base = none → n = 0 := by
 intro hb
 have hle := h.le hc
 obtain ⟨o, h1, h2, rfl, h4⟩ := h.ex
 rcases Nat.eq_zero_or_pos c with h0 | h0
 · omega
 ·
  have := h4 h0
  rw [hb] at this
  cases ob with
  | none => have := hz rfl; omega
  | some b => cases this
theorem Qu.rsM (h : Qu ob base n c xs ys N C) (hi : Inv w0 M w H) (hf : ∀ x, (f x).length = 1) (hp : List.Perm H (Hm ++ R)) (hM : Hm.filterMap (·.1) = M') (hm : (ob, Obj.cells (arr f ys j).toArray T' fr) ∈ R) (hn : ys.length = N) (hc : N ≤ C) (hz : ob = none → C = 0) : RS w M' f 1 base n c xs := by
 have hl := h.len hn
 have hle := h.le hc
 have h9 := h.nil hc hz
 have hr := hi.rsM hf hp hM hm hn hc hz
 obtain ⟨o, h1, h2, rfl, h4⟩ := h.ex
 rcases Nat.eq_zero_or_pos c with h0 | h0
 ·
  have hn0 : n = 0 := by omega
  subst hn0
  have hx : ys.drop o = [] := List.eq_nil_of_length_eq_zero hl
  rw [hx]
  exact ⟨⟨rfl, fun _ => rfl, hf, fun o c h => by simp at h⟩, fun _ _ h => by omega, by omega⟩
 ·
  have h5 := hr.drop (p := (o : Int)) ⟨Int.natCast_nonneg o, by omega⟩
  rw [Int.toNat_natCast] at h5
  unfold Ny at h5
  rw [if_neg (by omega), Nat.mul_one, ← h4 h0, show N - o = n by omega, show C - o = c by omega] at h5
  exact h5
theorem Qu.rs (h : Qu ob base n c xs ys N C) (hi : Inv w0 M w H) (hf : ∀ x, (f x).length = 1) (hm : (ob, Obj.cells (arr f ys j).toArray T' fr) ∈ H) (hn : ys.length = N) (hc : N ≤ C) (hz : ob = none → C = 0) : RS w [] f 1 base n c xs :=
 h.rsM hi hf (Hm := []) (R := H) (List.Perm.refl _) rfl hm hn hc hz
end
section quiet
variable {C : Cx} {ops : Array Oper} {Q : Act → Prop} {l : List Nat} {E : Env} {H R : Heap} {i d : Nat} {ty : TypeId} {pos : String} {af : Array Edge} {g : Option (Nat × Bool)}
end quiet
section rules
variable {C : Cx} {ops : Array Oper} {Q : Exit → Act → World → Prop} {l : List Nat} {E : Env} {H R : Heap} {i d : Nat} {ty : TypeId} {pos : String} {af : Array Edge} {g : Option (Nat × Bool)}
end rules
end Go.Acq
namespace Go.Acq
open Go Go.RowKit Go.Proofs Go.Shelf
section
variable {P : Program} {ρ : Ren} {w w0 : World} {M : List Nat} {H R : Heap} {b : Nat} {T : TypeId} {cs : Array Value}
theorem Inv.setCells (P : Program) (h : Inv w0 M w H) (ht : Take (some b, .cells cs T (0, 0)) H R) {o : Nat} {vs : List Value} (hfit : o + vs.length ≤ cs.size) (h1 : ∀ u, u ∈ vs → u.oneCell' = true) :
    Inv w0 M (w.setCells b o vs) ((some b, .cells (cs.toList.take o ++ vs ++ cs.toList.drop (o + vs.length)).toArray T (0, 0)) :: R) := by
  rw [Zeq (P := P) (h.own _ _ ht.mem) hfit h1]
  exact h.setRow ht
end
end Go.Acq
namespace Go.Acq
open Go Go.RowKit
section
variable {C : Cx} {ops : Array Oper} {Q : Exit → Act → World → Prop} {E : Env} {H : Heap}
end
end Go.Acq
namespace Go.Acq
open Go Go.RowKit
structure RowB where
  ob : Option Nat
  xs : List Int
  n : Nat
  c : Nat
  j : List Value
instance : Inhabited RowB := ⟨⟨none, [], 0, 0, []⟩⟩
def RowB.ok (r : RowB) : Prop := r.xs.length = r.n ∧ r.n ≤ r.c ∧ r.j.length = (r.c - r.n) * 1 ∧ (r.ob = none → r.c = 0)
def RowB.sm (r : RowB) : SM := (sb r.ob, r.n, r.c)
structure Fam (L : List RowB) (xss : List (List Int)) (n : Nat) : Prop where
  xs : L.map RowB.xs = xss
  ok : ∀ r, r ∈ L → r.ok
  len : xss.length = n
theorem RowB.ok0 : (default : RowB).ok := ⟨rfl, Nat.le_refl _, rfl, fun _ => rfl⟩
theorem Fam.replicate (n : Nat) : Fam (List.replicate n default) (List.replicate n []) n :=
 ⟨by rw [List.map_replicate]; rfl, fun r hr => by rw [(List.mem_replicate.1 hr).2]; exact RowB.ok0, List.length_replicate⟩
theorem Fam.lenL {L : List RowB} {xss : List (List Int)} {n : Nat} (h : Fam L xss n) : L.length = n := by rw [← h.len, ← h.xs, List.length_map]
theorem Fam.set {L : List RowB} {xss : List (List Int)} {n p : Nat} {r : RowB} (h : Fam L xss n) (hr : r.ok) : Fam (L.set p r) (xss.set p r.xs) n :=
 ⟨by rw [List.map_set, h.xs], fun q hq => by
  rcases List.mem_or_eq_of_mem_set hq with h1 | rfl
  · exact h.ok q h1
  · exact hr, by rw [List.length_set]; exact h.len⟩
section
variable {C : Cx} {Q : Exit → Act → World → Prop} {E : Env} {H : Heap} {e : Exit} {code : Code}
end
section ends
variable {C : Cx} {E : Env} {H N : Heap}
end ends
section rules
variable {C : Cx} {ops : Array Oper} {Q : Exit → Act → World → Prop} {l : List Nat} {E : Env} {H R : Heap} {i d : Nat} {ty : TypeId} {pos : String} {af : Array Edge} {g : Option (Nat × Bool)}
theorem Fam.inb {L : List RowB} {xss : List (List Int)} {n : Nat} {p : Int} (h : Fam L xss n) (hp : inb p xss.length) : inb p (L.map RowB.sm).length := by
 rw [List.length_map, h.lenL, ← h.len]; exact hp
end rules
section draw
variable {C : Cx} {ops : Array Oper} {Q : Exit → Act → World → Prop} {E : Env} {H : Heap}
theorem ObE2.tail {S : List Sp} {HR : Nat → List Value → Heap → Prop} {hd : List (List Nat)} {W : Env} {Hc : Heap} {i : Nat} (Tl : Heap) (h : ObE2 C ops Q S HR hd W Hc i) : ObE2 C ops Q S HR hd W (Hc ++ Tl) i := by
 intro vs es Es Hx hb hr hh a w hf hi
 refine Z17 (l2 := []) (fun e a w hne hq => ?_) (fun a w hq => ?_) [i] a w (h vs es Es (Tl ++ Hx) hb hr hh a w hf (hi.perm (Z1e hb Hx)))
 · cases e <;> first | exact absurd rfl hne | exact hq
 ·
  obtain ⟨v, hb', e', h1, h2, h3, h4⟩ := hq
  refine ⟨v, hb', e', h1, h2, h3, h4.perm ?_⟩
  have e1 : hb' ++ (Hc ++ (e' ++ (Va es (Xx S i) ++ (Tl ++ Hx)))) = hb' ++ (Hc ++ ((e' ++ Va es (Xx S i)) ++ (Tl ++ Hx))) := by simp only [List.append_assoc]
  have e2 : hb' ++ ((Hc ++ Tl) ++ (e' ++ (Va es (Xx S i) ++ Hx))) = hb' ++ ((Hc ++ Tl) ++ ((e' ++ Va es (Xx S i)) ++ Hx)) := by simp only [List.append_assoc]
  rw [e1, e2]
  exact (Z1e hb' Hx).symm
theorem ObsG2.tail {S : List Sp} {HR : Nat → List Value → Heap → Prop} {hd : List (List Nat)} {W : Env} {Hc : Heap} (Tl : Heap) : ∀ {l : List Nat}, ObsG2 C ops Q S HR hd W Hc l → ObsG2 C ops Q S HR hd W (Hc ++ Tl) l
 | [], _ => trivial
 | i :: l, ⟨h1, h2⟩ => by
  refine ⟨?_, ObsG2.tail Tl h2⟩
  cases he : Wi S i with
  | true => rw [he] at h1; exact ObE2.tail Tl h1
  | false => rw [he] at h1; exact ObQ.tail Tl h1
end draw
section ends
variable {C : Cx} {E : Env} {H H' N : Heap}
end ends
end Go.Acq
namespace Go.Acq
open Go Go.RowKit
def Lq (P : Program) (t : TypeId) : Bool := match P.underlying t with
  | some (.pointer _) => true
  | _ => false
theorem Zd5 {P : Program} {t : TypeId} (h : Lq P t = true) : ∃ e, P.underlying t = some (.pointer e) := by
 unfold Lq at h
 split at h
 · exact ⟨_, by assumption⟩
 · cases h
theorem Zez {P : Program} (w : World) (n : Nat) {t e : TypeId} (a : Option Addr) (ht : P.underlying t = some (.pointer e)) : (Op.equalIn (n + 1) t (.pointer a) (.pointer none)).run P w = .ok a.isNone w := by
 cases a <;> simp [Op.equalIn, run_underlying ht]
theorem cellV {w0 w : World} {M : List Nat} {H : Heap} {ob : Option Nat} {n c : Nat} {p : Int} {xs : List Int} {j : List Value} {T : TypeId} {fr : Nat × Nat} (hz : ob = none → c = 0) (hc : n ≤ c) (hn : xs.length = n) (hp : inb p xs.length) (hm : (ob, Obj.cells (arr (intC .i64) xs j).toArray T fr) ∈ H) (hi : Inv w0 M w H) :
    w.cell? (ea (sb ob) (p.toNat * 1)) = some (.int .i64 (xs.getD p.toNat 0)) := by
  obtain ⟨b, rfl⟩ := Ju hz hc hn hp
  have hb := hi.own _ _ hm
  have := Z07 (f := intC .i64) (s := 1) (fun _ => rfl) 0 xs j p.toNat 0 (Uu hp) (by omega)
  show w.cell? (ea (some ⟨b, 0, none⟩) (p.toNat * 1)) = _
  rw [Ga]
  simp only [World.cell?, hb, Option.isSome_none, Bool.false_eq_true, if_false, Nat.mul_one]
  simpa using this
theorem Z8y {w0 w : World} {M : List Nat} {H : Heap} {ob : Option Nat} {n c : Nat} {p : Int} {xs : List Int} {cs : Array Value} {T : TypeId} (hz : ob = none → c = 0) (hc : n ≤ c) (hn : xs.length = n) (hp : inb p xs.length) (hm : (ob, Obj.cells cs T (0, 0)) ∈ H) (hi : Inv w0 M w H) : w.frozen? (ea (sb ob) (p.toNat * 1)) = false := by
 obtain ⟨b, rfl⟩ := Ju hz hc hn hp
 have hb := hi.own _ _ hm
 show w.frozen? (ea (some ⟨b, 0, none⟩) (p.toNat * 1)) = _
 rw [Ga]
 simp [World.frozen?, hb]
theorem setV {w0 w : World} {M : List Nat} {H R : Heap} {ob : Option Nat} {n c : Nat} {p v : Int} {xs : List Int} {j : List Value} {T : TypeId} (hz : ob = none → c = 0) (hc : n ≤ c) (hn : xs.length = n) (hp : inb p xs.length) (ht : Take (ob, Obj.cells (arr (intC .i64) xs j).toArray T (0, 0)) H R) (hi : Inv w0 M w H) :
    Inv w0 M (w.setCell (ea (sb ob) (p.toNat * 1)) (.int .i64 v)) ((ob, Obj.cells (arr (intC .i64) (xs.set p.toNat v) j).toArray T (0, 0)) :: R) := by
  obtain ⟨b, rfl⟩ := Ju hz hc hn hp
  have hb := hi.own _ _ ht.mem
  have hs := Z8n (f := intC .i64) (s := 1) (fun _ => rfl) v j xs p.toNat (Uu hp)
  have e : w.setCell (ea (sb (some b)) (p.toNat * 1)) (.int .i64 v) = w.setRow b ((arr (intC .i64) xs j).toArray.setIfInBounds p.toNat (.int .i64 v)) := by
    show w.setCell (ea (some ⟨b, 0, none⟩) (p.toNat * 1)) (.int .i64 v) = _
    rw [Ga, Nat.mul_one]
    simp only [World.setCell, World.setRow]
    congr 1
    apply Array.ext_getElem?
    intro k
    simp only [Array.getElem?_modify]
    by_cases hk : b = k
    · subst hk; simp [hb]
    · rw [if_neg hk, if_neg hk]
  rw [e]
  have h2 : (arr (intC .i64) xs j).toArray.setIfInBounds p.toNat (.int .i64 v) = (arr (intC .i64) (xs.set p.toNat v) j).toArray := by
    have hl := Uu hp
    rw [List.setIfInBounds_toArray]
    congr 1
    rw [← hs]
    simp only [Nat.mul_one]
    rw [List.set_eq_take_append_cons_drop, if_pos (by rw [arr, List.length_append, Gh (f := intC .i64) (s := 1) (fun _ => rfl)]; omega)]
    simp [intC]
  rw [h2]
  exact hi.setRow ht
theorem Zds {P : Program} {a : Act} {o : Option Tmp} {ty : TypeId} {pos : String} {af : Array Edge} {g : Option (Nat × Bool)} {x y : Operand} {f : FuncId} {at' : Array TypeId} {v1 v2 : Value} {w : World} {r : Result Next} (hx : a.eval x = v1) (hy : a.eval y = v2) (h : (callFunc f #[v1, v2]).run P w = r) :
    (execOp a.eval ⟨o, .call ⟨.value (.func f), #[x, y], at'⟩, ty, pos, af, g⟩).run P w = r := by
  have e : a.eval (.func f) = .func (.func f) #[] #[] := rfl
  simp [execOp, resolve, Deferred.ofValue, invoke, hx, hy, e, h]
theorem Zdd {P : Program} {a : Act} {o : Option Tmp} {ty : TypeId} {pos : String} {af : Array Edge} {g : Option (Nat × Bool)} {x y z : Operand} {f : FuncId} {at' : Array TypeId} {v1 v2 v3 : Value} {w : World} {r : Result Next} (hx : a.eval x = v1) (hy : a.eval y = v2) (hz : a.eval z = v3) (h : (callFunc f #[v1, v2, v3]).run P w = r) :
    (execOp a.eval ⟨o, .call ⟨.value (.func f), #[x, y, z], at'⟩, ty, pos, af, g⟩).run P w = r := by
  have e : a.eval (.func f) = .func (.func f) #[] #[] := rfl
  simp [execOp, resolve, Deferred.ofValue, invoke, hx, hy, hz, e, h]
section rules
variable {C : Cx} {ops : Array Oper} {Q : Exit → Act → World → Prop} {l : List Nat} {E : Env} {H R : Heap} {i d : Nat} {ty : TypeId} {pos : String} {af : Array Edge} {g : Option (Nat × Bool)}
theorem Lb {t t2 : TypeId} {x y : Operand} {a : Option Addr} {b : Bool} (q0_ : ops[i]? = some ⟨some d, .binOp .eql t x y t2, ty, pos, af, g⟩ ∧ Zv ops E g = true ∧ Nat.ble (d + 1) C.n = true ∧ ev E x = some (.pointer a) ∧ ev E y = some (.pointer none) ∧ a.isNone = b) (ht : Lq C.P t = true) (kk : TO C ops Q l ((d, .bool b) :: E) H) : TO C ops Q (i :: l) E H := have ⟨ho, hg, hd, hx, hy, hb⟩ := q0_;
  TO.val ho hg hd (by simp) (fun a' w hf _ => by
    obtain ⟨e, he⟩ := Zd5 ht
    have := Zfu (Z5r fun q => Zez (P := C.P) w q a he) rfl
    rw [hb] at this
    simp only [execOp, hf.ev hx, hf.ev hy, eqGuard_at_pointer]
    simp [this]) kk
theorem Z7u {t t2 : TypeId} {x y : Operand} {a : Option Addr} {b : Bool} (q0_ : ops[i]? = some ⟨some d, .binOp .neq t x y t2, ty, pos, af, g⟩ ∧ Zv ops E g = true ∧ Nat.ble (d + 1) C.n = true ∧ ev E x = some (.pointer a) ∧ ev E y = some (.pointer none) ∧ a.isNone = !b) (ht : Lq C.P t = true) (kk : TO C ops Q l ((d, .bool b) :: E) H) : TO C ops Q (i :: l) E H := have ⟨ho, hg, hd, hx, hy, hb⟩ := q0_;
  TO.val ho hg hd (by simp) (fun a' w hf _ => by
    obtain ⟨e, he⟩ := Zd5 ht
    have := Zb5 (Z5r fun q => Zez (P := C.P) w q a he) rfl
    rw [hb, Bool.not_not] at this
    simp only [execOp, hf.ev hx, hf.ev hy, eqGuard_at_pointer]
    simp [this]) kk
def Ks (P : Program) (f : FuncId) (e : Array Value → Sem Value) : Prop :=
  ∃ fn, P.funcs[f]? = some fn ∧ (fn.name == "runtime.NumGoroutine") = false ∧ fn.body.isNone = true ∧ Extern.findNext fn = none ∧ Extern.find fn = some e
theorem TO.atLd {x : Operand} {f : FuncId} {at' : Array TypeId} {ad : Addr} {v : Int} (hF : Ks C.P f (Extern.Atomic.loadT (.int .i64))) (ho : ops[i]? = some ⟨some d, .call ⟨.value (.func f), #[x], at'⟩, ty, pos, af, g⟩) (hg : Zv ops E g = true) (hd : Nat.ble (d + 1) C.n = true)
    (hx : ev E x = some (.pointer (some ad))) (hc : ∀ w, Inv C.w0 C.M w H → w.cell? ad = some (.int .i64 v)) (kk : TO C ops Q l ((d, .int .i64 v) :: E) H) : TO C ops Q (i :: l) E H :=
  TO.val ho hg hd (by simp) (fun a w hf hi => by
    obtain ⟨fn, h1, h2, h3, h4, h5⟩ := hF
    have := run_call_load (w := w) h1 h2 h3 h4 .i64 h5 (hc w hi)
    have e : a.eval (.func f) = .func (.func f) #[] #[] := rfl
    simp [execOp, resolve, Deferred.ofValue, invoke, hf.ev hx, e, this]) kk
variable {x y z : Operand} {f : FuncId} {at' : Array TypeId} {ob : Option Nat} {n c : Nat} {p v u : Int} {xs : List Int} {j : List Value} {T : TypeId}
theorem TO.atStV (hF : Ks C.P f Extern.Atomic.storeT) (hz : ob = none → c = 0) (hc : n ≤ c) (hn : xs.length = n) (hp : inb p xs.length) (q0_ : ops[i]? = some ⟨some d, .call ⟨.value (.func f), #[x, y], at'⟩, ty, pos, af, g⟩ ∧ Zv ops E g = true ∧ Nat.ble (d + 1) C.n = true ∧ ev E x = some (.pointer (some (ea (sb ob) (p.toNat * 1)))) ∧ ev E y = some (.int .i64 v)) (ht : Take (ob, Obj.cells (arr (intC .i64) xs j).toArray T (0, 0)) H R)
    (kk : TO C ops Q l ((d, .tuple #[]) :: E) ((ob, Obj.cells (arr (intC .i64) (xs.set p.toNat v) j).toArray T (0, 0)) :: R)) : TO C ops Q (i :: l) E H := have ⟨ho, hg, hd, hx, hy⟩ := q0_;
  Lz ho hg (by simp) fun a w hf hi => by
    obtain ⟨fn, h1, h2, h3, h4, h5⟩ := hF
    have := run_call_store (k := .i64) (y := v) h1 h2 h3 h4 h5 (cellV hz hc hn hp ht.mem hi) (Z8y hz hc hn hp ht.mem hi)
    rw [Zds (hf.ev hx) (hf.ev hy) this]
    exact kk _ _ (hf.put hd _) (setV hz hc hn hp ht hi)
theorem Znr (hF : Ks C.P f (Extern.Atomic.update (Op.intArith .add) .i64 true)) (hz : ob = none → c = 0) (hc : n ≤ c) (hn : xs.length = n) (hp : inb p xs.length) (ho : ops[i]? = some ⟨some d, .call ⟨.value (.func f), #[x, y], at'⟩, ty, pos, af, g⟩) (hg : Zv ops E g = true) (hd : Nat.ble (d + 1) C.n = true)
    (hx : ev E x = some (.pointer (some (ea (sb ob) (p.toNat * 1))))) (hy : ev E y = some (.int .i64 v)) (ht : Take (ob, Obj.cells (arr (intC .i64) xs j).toArray T (0, 0)) H R)
    (kk : TO C ops Q l ((d, .int .i64 (IntKind.i64.wrap (xs.getD p.toNat 0 + v))) :: E) ((ob, Obj.cells (arr (intC .i64) (xs.set p.toNat (IntKind.i64.wrap (xs.getD p.toNat 0 + v))) j).toArray T (0, 0)) :: R)) : TO C ops Q (i :: l) E H :=
  Lz ho hg (by simp) fun a w hf hi => by
    obtain ⟨fn, h1, h2, h3, h4, h5⟩ := hF
    have := run_call_add h1 h2 h3 h4 .i64 h5 (y := v) (s := IntKind.i64.wrap (xs.getD p.toNat 0 + v)) (cellV hz hc hn hp ht.mem hi) (Z8y hz hc hn hp ht.mem hi) rfl
    rw [Zds (hf.ev hx) (hf.ev hy) this]
    exact kk _ _ (hf.put hd _) (setV hz hc hn hp ht hi)
theorem set_same {α : Type} {xs : List α} {k : Nat} {d v : α} (hk : k < xs.length) (h : xs.getD k d = v) : xs.set k v = xs := by
 subst h
 apply List.ext_getElem?
 intro i
 rw [List.getElem?_set]
 by_cases e : k = i
 · subst e; rw [if_pos rfl, if_pos hk, List.getElem?_eq_getElem hk, List.getD_eq_getElem?_getD, List.getElem?_eq_getElem hk]; rfl
 · rw [if_neg e]
theorem Zhr (hF : Ks C.P f (Extern.Atomic.casT (.int .i64))) (hz : ob = none → c = 0) (hc : n ≤ c) (hn : xs.length = n) (hp : inb p xs.length) (q0_ : ops[i]? = some ⟨some d, .call ⟨.value (.func f), #[x, y, z], at'⟩, ty, pos, af, g⟩ ∧ Zv ops E g = true ∧ Nat.ble (d + 1) C.n = true ∧ ev E x = some (.pointer (some (ea (sb ob) (p.toNat * 1)))) ∧ ev E y = some (.int .i64 v) ∧ ev E z = some (.int .i64 u)) (ht : Take (ob, Obj.cells (arr (intC .i64) xs j).toArray T (0, 0)) H R)
    (kk : TO C ops Q l ((d, .bool (decide (xs.getD p.toNat 0 = v))) :: E) ((ob, Obj.cells (arr (intC .i64) (xs.set p.toNat (if xs.getD p.toNat 0 = v then u else xs.getD p.toNat 0)) j).toArray T (0, 0)) :: R)) : TO C ops Q (i :: l) E H := have ⟨ho, hg, hd, hx, hy, hz'⟩ := q0_;
  Lz ho hg (by simp) fun a w hf hi => by
    obtain ⟨fn, h1, h2, h3, h4, h5⟩ := hF
    have hcell := cellV hz hc hn hp ht.mem hi
    by_cases hv : xs.getD p.toNat 0 = v
    · have := run_call_cas_hit h1 h2 h3 h4 .i64 h5 (y := u) hcell (Z8y hz hc hn hp ht.mem hi)
      rw [hv] at this
      rw [Zdd (hf.ev hx) (hf.ev hy) (hf.ev hz') this]
      rw [decide_eq_true hv, if_pos hv] at kk
      exact kk _ _ (hf.put hd _) (setV hz hc hn hp ht hi)
    · have := run_call_cas_miss h1 h2 h3 h4 .i64 h5 (y := u) hcell (Z8y hz hc hn hp ht.mem hi) hv
      rw [Zdd (hf.ev hx) (hf.ev hy) (hf.ev hz') this]
      rw [decide_eq_false hv, if_neg hv, set_same (Uu hp) rfl] at kk
      exact kk _ _ (hf.put hd _) (hi.perm ht)
end rules
section rules
variable {C : Cx} {ops : Array Oper} {Q : Exit → Act → World → Prop} {l : List Nat} {E : Env} {H R : Heap} {i d : Nat} {ty : TypeId} {pos : String} {af : Array Edge} {g : Option (Nat × Bool)}
end rules
end Go.Acq
noncomputable section
namespace Go.Acq.Vx
open Go Go.Acq
inductive SE where
  | lit (n : Int)
  | var (i : Nat)
  | bin (o : BinOp) (k : IntKind) (a b : SE)
  | wr (k : IntKind) (a : SE)
inductive SB where
  | lit (b : Bool)
  | cmp (o : BinOp) (a b : SE)
inductive Cp where
  | lit (n : Nat)
  | rest (less : Nat)
inductive SV where
  | int (k : IntKind) (e : SE)
  | bool (b : SB)
  | ptr (id off : Nat)
  | nilp
  | sl (id off len : Nat) (cap : Cp)
  /-- a slice of nothing, somewhere in a block -/
  | emp (id : Nat)
  | nils
  | fn (f : FuncId) (first captured : List SV)
  | nilf
  | yld (id : Nat)
  | agg (cs : List SV)
  | tup (vs : List SV)
  | und
abbrev En := List (Nat × SV)
def fnd (t : Nat) : En → Option SV
  | [] => none
  | (d, v) :: E => cond (Nat.beq d t) (some v) (fnd t E)
inductive Tri (α : Type) where
  | e
  | n (v : Option α) (l r : Tri α)
def pth (k : Nat) : List Bool := @Nat.rec (fun _ => Nat → List Bool) (fun _ => []) (fun _ ih k => @Nat.rec (fun _ => List Bool) [] (fun j _ => Nat.beq (j % 2) 0 :: ih (j / 2)) k) k k
def Kh {α : Type} (p : List Bool) : Tri α → Option α :=
  @List.rec Bool (fun _ => Tri α → Option α) (fun t => @Tri.rec α (fun _ => Option α) none (fun v _ _ _ _ => v) t)
    (fun b _ ih t => @Tri.rec α (fun _ => Option α) none (fun _ l r _ _ => @Bool.rec (fun _ => Option α) (ih r) (ih l) b) t) p
def setP {α : Type} (p : List Bool) (v : α) : Tri α → Tri α :=
  @List.rec Bool (fun _ => Tri α → Tri α) (fun t => @Tri.rec α (fun _ => Tri α) (.n (some v) .e .e) (fun _ l r _ _ => .n (some v) l r) t)
    (fun b _ ih t => @Tri.rec α (fun _ => Tri α) (@Bool.rec (fun _ => Tri α) (.n none .e (ih .e)) (.n none (ih .e) .e) b) (fun w l r _ _ => @Bool.rec (fun _ => Tri α) (.n w l (ih r)) (.n w (ih l) r) b) t) p
def Tri.get {α : Type} (t : Tri α) (k : Nat) : Option α := Kh (pth k) t
def Tri.set {α : Type} (t : Tri α) (k : Nat) (v : α) : Tri α := setP (pth k) v t
inductive Ex where
  | nor
  | ret
  | exit (id : Nat)
def isNor : Ex → Bool
  | .nor => true
  | _ => false
inductive AO where
  /-- n cells, then perhaps more of them -/
  | cells (cs : Tri SV) (n : Nat) (t : TypeId) (more : Bool)
  /-- a loop over a function: its frame, the slots that a round's values come into, the code; how a round ended it -/
  | loop (n : Nat) (env : En) (ps : List Nat) (assign body : Code) (pend : Ex)
  /-- one whose round is under way -/
  | busy (n : Nat) (env : En) (ps : List Nat) (assign body : Code)
  /-- a frame's mark of a loop -/
  | mark
  /-- nobody looks into it any more -/
  | gone
structure St where
  heap : Tri AO
  next : Nat
  ms : List Nat
def cst : Value → Option SV
  | .int k n => some (.int k (.lit n))
  | .bool b => some (.bool (.lit b))
  | .pointer none => some .nilp
  | .slice none 0 0 => some .nils
  | .nilFunc => some .nilf
  | _ => none
def csts : List Value → Option (List SV)
  | [] => some []
  | v :: vs => match cst v with
    | none => none
    | some x => match csts vs with
      | none => none
      | some xs => some (x :: xs)
def cstA : Value → Option SV
  | .agg cs => match csts cs.toList with
    | none => none
    | some xs => some (.agg xs)
  | v => cst v
def ev (E : En) : Operand → Option SV
  | .tmp t => fnd t E
  | .const v => cstA v
  | .global _ => none
  | .func f => some (.fn f [] [])
def evs (E : En) : List Operand → Option (List SV)
  | [] => some []
  | x :: xs => match ev E x with
    | none => none
    | some v => match evs E xs with
      | none => none
      | some vs => some (v :: vs)
def SV.isC : SV → Bool
  | .agg _ | .tup _ | .und => false
  | _ => true
def cellsOf : SV → Option (List SV)
  | .agg cs => some cs
  | .tup _ => none
  | .und => none
  | v => some [v]
def intV (o : BinOp) (k : IntKind) (a b : Int) : Option SV := match o with
  | .add => some (.int k (.lit (k.wrap (a + b))))
  | .sub => some (.int k (.lit (k.wrap (a - b))))
  | .mul => some (.int k (.lit (k.wrap (a * b))))
  | .rem => cond (decide (b = 0)) none (some (.int k (.lit (a.tmod b))))
  | .quo => cond (decide (b = 0)) none (some (.int k (.lit (k.wrap (a.tdiv b)))))
  | .eql => some (.bool (.lit (decide (a = b))))
  | .neq => some (.bool (.lit (!decide (a = b))))
  | .lss => some (.bool (.lit (decide (a < b))))
  | .leq => some (.bool (.lit (decide (a ≤ b))))
  | .gtr => some (.bool (.lit (decide (b < a))))
  | .geq => some (.bool (.lit (decide (b ≤ a))))
  | .shl => cond (decide (0 ≤ b)) (some (.int k (.lit (k.wrap (a * 2 ^ (Nat.min b.toNat k.bits)))))) none
  | .shr => cond (decide (0 ≤ b)) (some (.int k (.lit (a.fdiv (2 ^ (Nat.min b.toNat k.bits)))))) none
  | .and => some (.int k (.lit (Gm k a b)))
  | _ => none
def isShift : BinOp → Bool
  | .shl | .shr => true
  | _ => false
def numsOf : List SV → Option (List IntKind × List Int)
  | [] => some ([], [])
  | .int k (.lit a) :: vs => match numsOf vs with
    | some (ks, az) => some (k :: ks, a :: az)
    | none => none
  | _ => none
def eqV (P : Program) (t : TypeId) : SV → SV → Option Bool
  | .bool (.lit a), .bool (.lit b) => match P.underlying t with
    | some .bool => some (a == b)
    | _ => none
  | .ptr _ _, .nilp => cond (Lq P t) (some false) none
  | .nilp, .nilp => cond (Lq P t) (some true) none
  | .nils, .nils => match Xh P t with
    | some _ => some true
    | none => none
  | .sl _ _ _ _, .nils | .emp _, .nils => match Xh P t with
    | some _ => some false
    | none => none
  | .fn _ _ _, .nilf => match P.underlying t with
    | some (.func _ _ _) => some false
    | _ => none
  | .nilf, .nilf => match P.underlying t with
    | some (.func _ _ _) => some true
    | _ => none
  | .agg a, .agg b => match numsOf a, numsOf b with
    | some (ks, us), some (qs, ws) => cond (decide (ks = qs) && eqsT P t ks) (some (decide (us = ws))) none
    | _, _ => none
  | _, _ => none
def binS (P : Program) (o : BinOp) (t : TypeId) (x y : SV) : Option SV := match x, y with
  | .int k (.lit a), .int q (.lit b) => cond (isShift o || decide (k = q)) (intV o k a b) none
  | x, y => match o with
    | .eql => match eqV P t x y with | some b => some (.bool (.lit b)) | none => none
    | .neq => match eqV P t x y with | some b => some (.bool (.lit (!b))) | none => none
    | _ => none
def aggN (P : Program) (t : TypeId) : Option Nat := match P.underlying t with
  | some (.struct _) | some (.array _ _) => Yq P t
  | _ => none
def takeC (cs : Tri SV) (n : Nat) (off : Nat) : Option (List SV) := @Nat.rec (fun _ => Nat → Option (List SV)) (fun _ => some []) (fun _ ih off => match cs.get off with
  | none => none
  | some v => match ih (off + 1) with
    | none => none
    | some vs => some (v :: vs)) n off
def putC (cs : Tri SV) (off : Nat) (vs : List SV) : Tri SV := @List.rec SV (fun _ => Nat → Tri SV → Tri SV) (fun _ cs => cs) (fun v _ ih off cs => ih (off + 1) (cs.set off v)) vs off cs
def part (P : Program) (t : TypeId) (cs : Tri SV) (off : Nat) : Option SV :=
  cond (Xu P t) (cs.get off) (match aggN P t with
    | none => none
    | some n => match takeC cs n off with
      | some l => some (.agg l)
      | none => none)
def nthL (vs : List SV) (k : Nat) : Option SV := @List.rec SV (fun _ => Nat → Option SV) (fun _ => none) (fun v _ ih k => @Bool.rec (fun _ => Option SV) (ih (k - 1)) (some v) (Nat.beq k 0)) vs k
def cutL (vs : List SV) (k n : Nat) : Option (List SV) := @Nat.rec (fun _ => Nat → Option (List SV)) (fun _ => some []) (fun _ ih k => match nthL vs k with
  | none => none
  | some v => match ih (k + 1) with
    | none => none
    | some vs => some (v :: vs)) n k
def partL (P : Program) (t : TypeId) (cs : List SV) (off : Nat) : Option SV :=
  cond (Xu P t) (nthL cs off) (match aggN P t with
    | none => none
    | some n => match cutL cs off n with
      | some l => some (.agg l)
      | none => none)
def setL (v : SV) (cs : List SV) (k : Nat) : List SV := @List.rec SV (fun _ => Nat → List SV) (fun _ => []) (fun w tl ih k => @Bool.rec (fun _ => List SV) (w :: ih (k - 1)) (v :: tl) (Nat.beq k 0)) cs k
def setAt : List SV → Nat → List SV → List SV
  | cs, _, [] => cs
  | cs, o, v :: vs => setAt (setL v cs o) (o + 1) vs
def lenL (vs : List SV) : Nat := @List.rec SV (fun _ => Nat) 0 (fun _ _ ih => Nat.succ ih) vs
def allC (vs : List SV) : Bool := @List.rec SV (fun _ => Bool) true (fun v _ ih => @Bool.rec (fun _ => Bool) false ih v.isC) vs
def natOf : SV → Option Nat
  | .int _ (.lit (.ofNat n)) => some n
  | _ => none
def placesT (P : Program) (t : TypeId) : Option (List (Nat × Nat)) := match P.underlying t with
  | some (.struct fields) => fields.toList.mapM (fun f => (P.info? f.type).map fun i => (f.offset, i.size))
  | _ => none
def nthP (l : List (Nat × Nat)) (i : Nat) : Option (Nat × Nat) := l[i]?
def elT (P : Program) (t : TypeId) : Option (TypeId × Nat) := match P.underlying t with
  | some (.slice e) => match Yq P e with | some n => some (e, n) | none => none
  | some (.array _ e) => match Yq P e with | some n => some (e, n) | none => none
  | _ => none
def placeT (P : Program) (t : TypeId) (i : Nat) : Option (Nat × Nat) := match placesT P t with
  | some l => nthP l i
  | none => match elT P t with
    | some (_, n) => some (i * n, n)
    | none => none
def fillS (P : Program) (t : TypeId) (E : En) : List SV → List (Nat × Operand) → Option (List SV)
  | z, [] => some z
  | z, (i, x) :: ps => match ev E x, placeT P t i with
    | some v, some (o, n) => match cellsOf v with
      | some cs => cond (Nat.beq (lenL cs) n && Nat.ble (o + n) (lenL z)) (fillS P t E (setAt z o cs) ps) none
      | none => none
    | _, _ => none
def zeroS (P : Program) (t : TypeId) : Option (List SV) := match Xz P t with
  | some v => match cstA v with | some x => cellsOf x | none => none
  | none => none
def reps (z : List SV) : Nat → List SV
  | 0 => []
  | n + 1 => z ++ reps z n
def St.set (s : St) (i : Nat) (o : AO) : St := ⟨s.heap.set i o, s.next, s.ms⟩
def St.new (s : St) (o : AO) : St := ⟨s.heap.set s.next o, s.next + 1, s.ms⟩
def St.newC (s : St) (vs : List SV) (t : TypeId) (m : Bool) : St := s.new (.cells (putC .e 0 vs) (lenL vs) t m)
def optN (E : En) : Option Operand → Option (Option Nat)
  | none => some none
  | some x => match ev E x with
    | some v => match natOf v with | some n => some (some n) | none => none
    | none => none
def sliceS (d i o n : Nat) (c : Cp) (l : Nat) (h m : Option Nat) : Option SV := match h, m with
  | none, none => cond (Nat.ble l n) (match c with
    | .lit c => some (.sl i (cond (Nat.beq l c) o (o + l * d)) (n - l) (.lit (c - l)))
    | .rest k => cond (Nat.beq l n) (some (.emp i)) (some (.sl i (o + l * d) (n - l) (.rest (k + l))))) none
  | some h, none => cond (Nat.ble l h && Nat.ble h n) (match c with
    | .lit c => some (.sl i (cond (Nat.beq l c) o (o + l * d)) (h - l) (.lit (c - l)))
    | .rest k => cond (Nat.beq l n) (some (.emp i)) (some (.sl i (o + l * d) (h - l) (.rest (k + l))))) none
  | some h, some m => cond (Nat.ble l h && Nat.ble h m && Nat.ble m (match c with | .lit c => c | .rest _ => n))
      (some (.sl i (cond (Nat.beq m l) o (o + l * d)) (h - l) (.lit (m - l)))) none
  | none, some _ => none
def buildN (P : Program) (t : TypeId) : Option Nat := cond (placesT P t).isSome (some 0) (match P.underlying t with | some (.array _ e) => Yq P e | _ => none)
def pureV (P : Program) (E : En) (s : St) (o : Op) : Option SV := match o with
  | .move x => ev E x
  | .assign x => ev E x
  | .pick c a b => match ev E c with
    | some (.bool (.lit true)) => ev E a
    | some (.bool (.lit false)) => ev E b
    | _ => none
  | .nilCheck x => match ev E x with
    | some (.ptr i o) => some (.ptr i o)
    | some (.fn f a b) => some (.fn f a b)
    | some (.yld i) => some (.yld i)
    | _ => none
  | .load t x => match ev E x with
    | some (.ptr i o) => match s.heap.get i with
      | some (.cells cs _ _ _) => part P t cs o
      | _ => none
    | _ => none
  | .binOp op t x y _ => match ev E x with
    | none => none
    | some a => match ev E y with
      | none => none
      | some b => binS P op t a b
  | .unOp op _ x => match op, ev E x with
    | .not, some (.bool (.lit b)) => some (.bool (.lit (!b)))
    | .neg, some (.int k (.lit a)) => some (.int k (.lit (k.wrap (-a))))
    | _, _ => none
  | .convert s t x => match ev E x, Ro P t with
    | some (.int _ (.lit a)), some k => cond (P.underlying s).isSome (some (.int k (.lit (k.wrap a)))) none
    | _, _ => none
  | .makeFunc (.func f) fs cs => match Vx.evs E fs.toList, Vx.evs E cs.toList with
    | some a, some b => some (.fn f a b)
    | _, _ => none
  | .build t ps => match zeroS P t, buildN P t with
    | some z, some _ => match fillS P t E z ps.toList with
      | some cs => some (.agg cs)
      | none => none
    | _, _ => none
  | .fieldAddr t x f => match ev E x, Yh P t f with
    | some (.ptr i o), some d => some (.ptr i (o + d))
    | _, _ => none
  | .field t x f => match ev E x, P.underlying t with
    | some (.agg cs), some (.struct fs) => match fs[f]? with
      | some g => partL P g.type cs g.offset
      | none => none
    | _, _ => none
  | .indexAddr t x y => match ev E x, ev E y, elT P t with
    | some (.sl i o n _), some v, some (_, d) => match natOf v, Xh P t with
      | some k, some _ => cond (Nat.blt k n) (some (.ptr i (o + k * d))) none
      | _, _ => none
    | some (.ptr i o), some v, some (_, d) => match natOf v, P.underlying t with
      | some k, some (.array n _) => cond (Nat.blt k n) (some (.ptr i (o + k * d))) none
      | _, _ => none
    | _, _, _ => none
  | .index t x y => match ev E x, ev E y, P.underlying t with
    | some (.agg cs), some v, some (.array n e) => match natOf v, Yq P e with
      | some k, some d => cond (Nat.blt k n) (partL P e cs (k * d)) none
      | _, _ => none
    | _, _, _ => none
  | .extract x i => match ev E x with
    | some (.tup vs) => nthL vs i
    | _ => none
  | .slice t x lo hi mx => match ev E x, Xh P t, elT P t, optN E lo, optN E hi, optN E mx with
    | some (.sl i o n c), some _, some (_, d), some l, some h, some m => sliceS d i o n c (l.getD 0) h m
    | some .nils, some _, some _, some l, some h, some m => cond (Nat.beq (l.getD 0) 0 && Nat.beq (h.getD 0) 0 && Nat.beq (m.getD 0) 0 && (h.isSome || m.isNone)) (some .nils) none
    | _, _, _, _, _, _ => none
  | .call ⟨.builtin .len, xs, ts⟩ => match Vx.evs E xs.toList, ts.toList with
    | some [v], t :: _ => match Xh P t with
      | some _ => match v with
        | .sl _ _ n _ => some (.int .i64 (.lit (Int.ofNat n)))
        | .emp _ => some (.int .i64 (.lit 0))
        | .nils => some (.int .i64 (.lit 0))
        | _ => none
      | none => none
    | _, _ => none
  | .call ⟨.builtin .min, xs, _⟩ => match Vx.evs E xs.toList with
    | some [.int k (.lit a), .int _ (.lit b)] => some (.int k (.lit (cond (decide (b < a)) b a)))
    | _ => none
  | .call ⟨.builtin .max, xs, _⟩ => match Vx.evs E xs.toList with
    | some [.int k (.lit a), .int _ (.lit b)] => some (.int k (.lit (cond (decide (a < b)) b a)))
    | _ => none
  | _ => none
def rowOf (s : St) (d : Nat) : SV → Option (Nat × List SV)
  | .nils => some (0, [])
  | .emp _ => some (0, [])
  | .sl i o n _ => match s.heap.get i with
    | some (.cells cs _ _ _) => match takeC cs (n * d) o with
      | some l => some (n, l)
      | none => none
    | _ => none
  | _ => none
def putAt (s : St) (i o : Nat) (vs : List SV) : Option St := match s.heap.get i with
  | some (.cells cs n t m) => cond (Nat.ble (o + lenL vs) n && allC vs) (some (s.set i (.cells (putC cs o vs) n t m))) none
  | _ => none
structure IH where
  /-- code of a frame of so many slots; may there be a range over a function? -/
  code : Nat → Bool → Code → En → St → Option (Ex × En × St)
  call : FuncId → List SV → St → Option (SV × St)
def beqC : SV → SV → Bool
  | .int k (.lit a), .int q (.lit b) => decide (k = q) && decide (a = b)
  | .bool (.lit a), .bool (.lit b) => a == b
  | .ptr i o, .ptr j p => Nat.beq i j && Nat.beq o p
  | .nilp, .nilp => true
  | .sl i o n (.lit c), .sl j p m (.lit d) => Nat.beq i j && Nat.beq o p && Nat.beq n m && Nat.beq c d
  | .sl i o n (.rest c), .sl j p m (.rest d) => Nat.beq i j && Nat.beq o p && Nat.beq n m && Nat.beq c d
  | .emp i, .emp j => Nat.beq i j
  | .nils, .nils => true
  | .nilf, .nilf => true
  | .yld i, .yld j => Nat.beq i j
  | .und, .und => true
  | _, _ => false
def beqCs : List SV → List SV → Bool
  | [], [] => true
  | a :: az, b :: bs => beqC a b && beqCs az bs
  | _, _ => false
def SV.beq : SV → SV → Bool
  | .fn f a b, .fn g c d => Nat.beq f g && beqCs a c && beqCs b d
  | .agg a, .agg b => beqCs a b
  | .tup a, .tup b => beqCs a b
  | u, v => beqC u v
inductive XK where
  | ld | st | add | cas
  /-- a call that is known: its arguments, its answer -/
  | known (vs : List SV) (v : SV)
def plainC : SV → Bool
  | .int _ _ | .bool _ | .nilp | .nils | .nilf | .und => true
  | _ => false
def kFits : XK → List SV → Bool
  | .known us _, vs => us.all plainC && beqCs us vs
  | _, _ => true
def extV (X : List (FuncId × XK)) (f : FuncId) (vs : List SV) : Option XK := match X with
  | [] => none
  | (g, k) :: X => cond (Nat.beq f g && kFits k vs) (some k) (extV X f vs)
def cellI (s : St) (i o : Nat) : Option Int := match s.heap.get i with
  | some (.cells cs _ _ _) => match cs.get o with
    | some (.int .i64 (.lit a)) => some a
    | _ => none
  | _ => none
def runX (s : St) : XK → List SV → Option (SV × St)
  | .known _ v, _ => some (v, s)
  | .ld, [.ptr i o] => match cellI s i o with
    | some a => some (.int .i64 (.lit a), s)
    | none => none
  | .st, [.ptr i o, .int .i64 (.lit b)] => match cellI s i o with
    | some _ => match putAt s i o [.int .i64 (.lit b)] with | some s' => some (.tup [], s') | none => none
    | none => none
  | .add, [.ptr i o, .int .i64 (.lit b)] => match cellI s i o with
    | some a => match putAt s i o [.int .i64 (.lit (IntKind.i64.wrap (a + b)))] with | some s' => some (.int .i64 (.lit (IntKind.i64.wrap (a + b))), s') | none => none
    | none => none
  | .cas, [.ptr i o, .int .i64 (.lit b), .int .i64 (.lit v)] => match cellI s i o with
    | some a => cond (decide (a = b)) (match putAt s i o [.int .i64 (.lit v)] with | some s' => some (.bool (.lit true), s') | none => none) (some (.bool (.lit false), s))
    | none => none
  | _, _ => none
def setPs (ps : List Nat) (vs : List SV) (E : En) : En := match ps, vs with
  | p :: ps, v :: vs => setPs ps vs ((p, v) :: E)
  | _, _ => E
def lt31 (n : Nat) : Bool := Nat.ble n 1073741824
def roomT (s : St) (i : Nat) (e : TypeId) : Bool := match s.heap.get i with
  | some (.cells _ _ t true) => Nat.beq t e
  | _ => false
def fitsN (n by' : Nat) : Bool := lt31 n && Nat.ble (n * by') 140737488355328
def appS (P : Program) (s : St) (e : TypeId) (d by' : Nat) (x : SV) (n : Nat) (vs : List SV) : Option (SV × St) := match x with
  | .nils => cond (Nat.beq n 0) (some (.nils, s)) (cond (fitsN n by') (some (.sl s.next 0 n (.rest 0), s.newC vs e true)) none)
  | .sl i o k (.lit c) => cond (Nat.ble (k + n) c)
      (match putAt s i (o + k * d) vs with | some s' => some (.sl i o (k + n) (.lit c), s') | none => none)
      (match rowOf s d (.sl i o k (.lit c)) with | some (_, old) => cond (fitsN (k + n) by') (some (.sl s.next 0 (k + n) (.rest 0), s.newC (old ++ vs) e true)) none | none => none)
  | .sl i o k (.rest l) => match rowOf s d (.sl i o k (.rest l)) with
    | some (_, old) => cond (Nat.beq o 0 && Nat.beq l 0 && roomT s i e && fitsN (k + n) by') (some (.sl s.next 0 (k + n) (.rest 0), (s.set i .gone).newC (old ++ vs) e true)) none
    | none => none
  | _ => none
def isFresh : Op → Bool
  | .alloc _ | .box _ _ | .buildSlice _ _ _ | .makeSlice _ _ _ => true
  | _ => false
def freshV (P : Program) (E : En) (N : Nat) (o : Op) : Option (SV × List SV × TypeId) := match o with
  | .alloc t => match zeroS P t with
    | some z => some (.ptr N 0, z, t)
    | none => none
  | .box t x => match ev E x with
    | some v => match cellsOf v with
      | some cs => cond (allC cs) (some (.ptr N 0, cs, t)) none
      | none => none
    | none => none
  | .buildSlice t n ps => match Xh P t, elT P t with
    | some _, some (e, d) => match zeroS P e with
      | some z => cond (Nat.beq (lenL z) d && Nat.ble (n * d) 16777216) (match fillS P t E (reps z n) ps.toList with
        | some cs => cond (allC cs) (some (.sl N 0 n (.lit n), cs, e)) none
        | none => none) none
      | none => none
    | _, _ => none
  | .makeSlice t x y => match Xh P t, elT P t, ev E x, ev E y with
    | some _, some (e, d), some a, some b => match zeroS P e, natOf a, natOf b, Un P e with
      | some z, some n, some c, some by' => cond (Nat.beq (lenL z) d && Nat.ble n c && lt31 c && lt31 (c * by')) (some (.sl N 0 n (.lit c), reps z c, e)) none
      | _, _, _, _ => none
    | _, _, _, _ => none
  | _ => none
def newF (s : St) (r : Option (SV × List SV × TypeId)) : Option (SV × St) := match r with
  | some (v, cs, t) => some (v, s.newC cs t false)
  | none => none
def effV (P : Program) (X : List (FuncId × XK)) (ih : IH) (E : En) (s : St) (o : Op) : Option (SV × St) := match o with
  | .alloc t => newF s (freshV P E s.next (.alloc t))
  | .box t x => newF s (freshV P E s.next (.box t x))
  | .buildSlice t n ps => newF s (freshV P E s.next (.buildSlice t n ps))
  | .makeSlice t x y => newF s (freshV P E s.next (.makeSlice t x y))
  | .store t x y => match ev E x, ev E y, Yq P t with
    | some (.ptr i o), some v, some n => match cellsOf v with
      | some cs => cond (Nat.beq (lenL cs) n) (match putAt s i o cs with
        | some s' => some (.und, s')
        | none => none) none
      | none => none
    | _, _, _ => none
  | .call ⟨.builtin .append, xs, ts⟩ => match Vx.evs E xs.toList, ts.toList with
    | some [x, y], t :: t2 :: _ => match Xh P t, Xh P t2, elT P t with
      | some _, some _, some (e, d) => match rowOf s d y, zeroS P e, Un P e with
        | some (n, vs), some z, some by' => cond (Nat.beq (lenL z) d && allC vs) (appS P s e d by' x n vs) none
        | _, _, _ => none
      | _, _, _ => none
    | _, _ => none
  | .call ⟨.builtin .copy, xs, ts⟩ => match Vx.evs E xs.toList, ts.toList with
    | some [.sl i o n _, .sl j p m c], t :: _ => match Xh P t, elT P t with
      | some _, some (_, d) => match rowOf s d (.sl j p (Nat.min m n) c) with
        | some (_, vs) => match putAt s i o vs with
          | some s' => some (.int .i64 (.lit (Int.ofNat (Nat.min m n))), s')
          | none => none
        | none => none
      | _, _ => none
    | _, _ => none
  | .call ⟨.builtin .clear, xs, ts⟩ => match Vx.evs E xs.toList, ts.toList with
    | some [.sl i o n _], t :: _ => match Xh P t, elT P t with
      | some _, some (e, d) => match zeroS P e with
        | some z => cond (Nat.beq (lenL z) d) (match putAt s i o (reps z n) with
          | some s' => some (.tup [], s')
          | none => none) none
        | none => none
      | _, _ => none
    | some [.nils], t :: _ => match Xh P t with
      | some _ => some (.tup [], s)
      | none => none
    | _, _ => none
  | .call ⟨.value x, xs, _⟩ => match ev E x, Vx.evs E xs.toList with
    | some (.fn f a b), some vs => match extV X f (a ++ vs ++ b) with
      | some k => runX s k (a ++ vs ++ b)
      | none => match ih.call f (a ++ vs ++ b) ⟨s.heap, s.next, []⟩ with
        | some (v, s') => some (v, ⟨s'.heap, s'.next, s.ms⟩)
        | none => none
    | some (.yld i), some vs => match s.heap.get i with
      | some (.loop n E' ps az bd .nor) => cond (Nat.beq vs.length ps.length && ps.all (fun p => Nat.blt p n)) (match ih.code n false az (setPs ps vs E') ⟨s.heap, s.next, []⟩ with
        | some (.nor, E2, s2) => match s2.heap.get i with
          | some (.loop n2 E2' ps2 as2 bd2 .nor) => match ih.code n false bd E2 (s2.set i (.busy n2 E2' ps2 as2 bd2)) with
            | some (x, _, s3) => match s3.heap.get i with
              | some (.busy n3 E3 ps3 as3 bd3) => some (.bool (.lit (isNor x)), ⟨s3.heap.set i (.loop n3 E3 ps3 as3 bd3 x), s3.next, s.ms⟩)
              | _ => none
            | none => none
          | _ => none
        | _ => none) none
      | _ => none
    | _, _ => none
  | _ => none
def isEff : Op → Bool
  | .alloc _ | .box _ _ | .buildSlice _ _ _ | .makeSlice _ _ _ | .store _ _ _ => true
  | .call ⟨.builtin b, _, _⟩ => match b with | .append | .copy | .clear => true | _ => false
  | .call _ => true
  | _ => false
def putE (E : En) (d : Option Nat) (v : SV) : En := match d with | some d => (d, v) :: E | none => E
def wantS (ops : Array Oper) (E : En) : Option (Nat × Bool) → Option Bool
  | none => some true
  | some (j, w) => match (ops[j]?).bind (·.dst) with
    | some t => match fnd t E with
      | some (.bool (.lit b)) => some (b == w)
      | some .und => some false
      | _ => none
    | none => none
def dstOk (n : Nat) : Option Nat → Bool
  | some d => Nat.blt d n
  | none => true
def valO (P : Program) (X : List (FuncId × XK)) (ih : IH) (n : Nat) (all : Array Oper) (o : Oper) (E : En) (s : St) : Option (SV × St) :=
  cond (dstOk n o.dst) (match wantS all E o.guard with
  | some true => cond (isEff o.op)
      (match effV P X ih E s o.op with
      | some (v, s') => some (v, ⟨s'.heap, s'.next, s.ms⟩)
      | none => none)
      (match pureV P E s o.op with
      | some v => some (v, s)
      | none => none)
  | some false => some (.und, s)
  | none => none) none
def stepO (P : Program) (X : List (FuncId × XK)) (ih : IH) (n : Nat) (all : Array Oper) (o : Oper) (E : En) (s : St) : Option (En × St) := match valO P X ih n all o E s with
  | some (v, s') => some (putE E o.dst v, s')
  | none => none
def runOps (P : Program) (X : List (FuncId × XK)) (ih : IH) (n : Nat) (all : Array Oper) : List Oper → En → St → Option (En × St)
  | [], E, s => some (E, s)
  | o :: os, E, s => match stepO P X ih n all o E s with
    | some (E', s') => runOps P X ih n all os E' s'
    | none => none
def readsO (all : Array Oper) (o : Oper) : List Nat := (o.op.operands.toList.filterMap fun x => match x with | .tmp t => some t | _ => none) ++ (match o.guard with
  | some (j, _) => match (all[j]?).bind (·.dst) with | some t => [t] | none => []
  | none => [])
def isTrue (o : Op) : Bool := isEff o && !isFresh o
def truB (ops : Array Oper) (j : Nat) : Bool := match ops[j]? with
  | some o => isTrue o.op
  | none => false
def fresB (ops : Array Oper) (j : Nat) : Bool := match ops[j]? with
  | some o => isFresh o.op
  | none => false
def nthN (l : List Nat) (k : Nat) : Nat := @List.rec Nat (fun _ => Nat → Nat) (fun _ => 0) (fun v _ ih k => @Bool.rec (fun _ => Nat) (ih (k - 1)) v (Nat.beq k 0)) l k
def maskE (A : List Nat) (l : List Edge) : Nat := @List.rec Edge (fun _ => Nat) 0 (fun e _ ih => @Bool.rec (fun _ => Nat) ih (Nat.lor (Nat.lor (Nat.pow 2 e.on) (nthN A e.on)) ih) (Region.binds .any e)) l
def ancs (l : List Oper) (A : List Nat) : List Nat := @List.rec Oper (fun _ => List Nat → List Nat) (fun A => A) (fun o _ ih A => ih (A ++ [maskE A o.after.toList])) l A
def bitB (m j : Nat) : Bool := Nat.beq (Nat.mod (Nat.shiftRight m j) 2) 1
def depsF (m : Nat) (D : List (Nat × Nat)) (rs : List Nat) : Bool := @List.rec Nat (fun _ => Bool) true (fun t _ ih => @Bool.rec (fun _ => Bool) false ih (@List.rec (Nat × Nat) (fun _ => Bool) true (fun p _ ih => @Prod.rec Nat Nat (fun _ => Bool) (fun d j => @Bool.rec (fun _ => Bool) ih (bitB m j) (Nat.beq d t)) p) D)) rs
def newS (t : Nat) (l : List Nat) : Bool := @List.rec Nat (fun _ => Bool) true (fun d _ ih => @Bool.rec (fun _ => Bool) ih false (Nat.beq d t)) l
def backO (i : Nat) (l : List Edge) : Bool := @List.rec Edge (fun _ => Bool) true (fun e _ ih => @Bool.rec (fun _ => Bool) ih (@Bool.rec (fun _ => Bool) false ih (Nat.blt e.on i)) (Region.binds .any e)) l
def ancB (A : List Nat) (i j : Nat) : Bool := bitB (nthN A i) j
def ana (all : Array Oper) (l : List Oper) : List Nat → Nat → List (Nat × Nat) → List Nat → List Nat → Nat → Bool :=
  @List.rec Oper (fun _ => List Nat → Nat → List (Nat × Nat) → List Nat → List Nat → Nat → Bool) (fun _ _ _ _ _ _ => true) (fun o _ ih A i D R W TM => @List.rec Nat (fun _ => Bool) false (fun m A _ =>
    backO i o.after.toList && depsF m D (readsO all o) && (match isTrue o.op with | true => Nat.beq (Nat.land TM m) TM | false => true) &&
      (match o.dst with
        | none => ih A (i + 1) D (readsO all o ++ R) W (match isTrue o.op with | true => Nat.lor TM (Nat.pow 2 i) | false => TM)
        | some d => newS d W && newS d R && newS d (readsO all o) && ih A (i + 1) ((d, i) :: D) (readsO all o ++ R) (d :: W) (match isTrue o.op with | true => Nat.lor TM (Nat.pow 2 i) | false => TM))) A) l
def drawOk (ops : Array Oper) (A : List Nat) : Bool := ana ops ops.toList A 0 [] [] [] 0
def rkT (ops : Array Oper) (i : Nat) : Nat := (List.range i).countP (truB ops)
def loT (ops : Array Oper) (A : List Nat) (i : Nat) : Nat := (List.range ops.size).countP fun j => truB ops j && ancB A i j
def hiT (ops : Array Oper) (A : List Nat) (i : Nat) : Nat := (List.range ops.size).countP fun j => truB ops j && !(ancB A j i)
def hidF (m : Nat) (l : List Oper) : Nat → List Nat := @List.rec Oper (fun _ => Nat → List Nat) (fun _ => []) (fun o _ ih q => match isFresh o.op with
  | true => @Bool.rec (fun _ => List Nat) (q :: ih (q + 1)) (ih (q + 1)) (bitB m q)
  | false => ih (q + 1)) l
def hidL (ops : Array Oper) (A : List Nat) (i : Nat) : List Nat := hidF (nthN A i) ops.toList 0
def restr (E : En) : List Nat → En
  | [] => []
  | t :: ts => match fnd t E with
    | some v => (t, v) :: restr E ts
    | none => restr E ts
def hideH (base : Nat) (h : Tri AO) (l : List Nat) : Tri AO := @List.rec Nat (fun _ => Tri AO → Tri AO) (fun h => h) (fun j _ ih h => ih (h.set (base + j) .gone)) l h
def orGone (o : Option AO) : AO := match o with
  | some o => o
  | none => .gone
def showH (base : Nat) (h0 h : Tri AO) (l : List Nat) : Tri AO := @List.rec Nat (fun _ => Tri AO → Tri AO) (fun h => h) (fun j _ ih h => ih (h.set (base + j) (orGone (h0.get (base + j))))) l h
def blockOf (E : En) (o : Op) : Option Nat := match o with
  | .load _ x => match ev E x with
    | some (.ptr i _) => some i
    | _ => none
  | _ => none
def looks : Op → Bool
  | .load _ _ => true
  | _ => false
def seesOk (ops : Array Oper) (A : List Nat) (base : Nat) (E : En) (i : Nat) (o : Op) : Bool := match blockOf E o with
  | some x => Nat.blt x base || Nat.ble (base + ops.size) x || (fresB ops (x - base) && ancB A i (x - base))
  | none => true
def valD (P : Program) (X : List (FuncId × XK)) (ih : IH) (n : Nat) (all : Array Oper) (A : List Nat) (base i : Nat) (o : Oper) (E : En) (s : St) : Option (SV × St) :=
  cond (isFresh o.op) (cond (dstOk n o.dst) (match wantS all E o.guard with
    | some true => match freshV P E (base + i) o.op with
      | some (v, cs, t) => some (v, s.set (base + i) (.cells (putC .e 0 cs) (lenL cs) t false))
      | none => none
    | some false => some (.und, s.set (base + i) .gone)
    | none => none) none)
  (cond (isEff o.op) (match valO P X ih n all o E ⟨hideH base s.heap (hidL all A i), s.next, s.ms⟩ with
    | some (v, s') => some (v, ⟨showH base s.heap s'.heap (hidL all A i), s'.next, s'.ms⟩)
    | none => none)
  (cond (seesOk all A base E i o.op) (valO P X ih n all o E s) none))
def runDs (P : Program) (X : List (FuncId × XK)) (ih : IH) (n : Nat) (all : Array Oper) (A : List Nat) (base : Nat) : Nat → List Oper → En → St → Option (En × St × List St × List (Nat × En × SV))
  | _, [], E, s => some (E, s, [], [])
  | i, o :: os, E, s => match valD P X ih n all A base i o (restr E (readsO all o)) s with
    | some (v, s') => match runDs P X ih n all A base (i + 1) os (putE E o.dst v) s' with
      | some (E2, s2, ss, qs) => cond (isEff o.op) (cond (isFresh o.op) (some (E2, s2, ss, qs)) (some (E2, s2, s' :: ss, qs))) (cond (looks o.op) (some (E2, s2, ss, (i, restr E (readsO all o), v) :: qs)) (some (E2, s2, ss, qs)))
      | none => none
    | none => none
def lateOk (all : Array Oper) (base : Nat) (x k : Nat) : Bool := Nat.blt x base || Nat.ble (base + all.size) x || Nat.blt (rkT all (x - base)) k
def sameQ (P : Program) (all : Array Oper) (A : List Nat) (base : Nat) (ss : List St) (i : Nat) (E : En) (v : SV) : Bool := match all[i]? with
  | some o => match blockOf E o.op with
    | none => true
    | some x => match wantS all E o.guard with
      | some true => (Nat.beq (loT all A i) (hiT all A i) && Nat.beq (rkT all i) (hiT all A i)) || ((List.range (hiT all A i + 1)).drop (loT all A i)).all fun k => match ss[k]? with
        | some s => match pureV P E s o.op with
          | some u => SV.beq u v && lateOk all base x k
          | none => false
        | none => false
      | some false => true
      | none => false
  | none => false
def runDrawA (P : Program) (X : List (FuncId × XK)) (ih : IH) (n : Nat) (ops : Array Oper) (A : List Nat) (E : En) (s : St) : Option (En × St) :=
  cond (drawOk ops A) (match runDs P X ih n ops A s.next 0 ops.toList E ⟨s.heap, s.next + ops.size, s.ms⟩ with
    | some (E2, s2, ss, qs) => cond (qs.all fun q => sameQ P ops A s.next (⟨s.heap, s.next + ops.size, s.ms⟩ :: ss) q.1 q.2.1 q.2.2) (some (E2, s2)) none
    | none => none) none
def runDraw (P : Program) (X : List (FuncId × XK)) (ih : IH) (n : Nat) (ops : Array Oper) (E : En) (s : St) : Option (En × St) := runDrawA P X ih n ops (ancs ops.toList []) E s
def ded : En → List Nat → En
  | [], _ => []
  | (d, v) :: E, seen => cond (seen.any (Nat.beq d)) (ded E seen) ((d, v) :: ded E (d :: seen))
def resOf (P : Program) (E : En) (s : St) : List ResultVar → Option (List SV)
  | [] => some []
  | r :: rs => match resOf P E s rs with
    | none => none
    | some vs => match r with
      | .tmp t => match fnd t E with | some v => some (v :: vs) | none => none
      | .cell x t => match fnd x E with
        | some (.ptr i o) => match s.heap.get i with
          | some (.cells cs _ _ _) => match part P t cs o with | some v => some (v :: vs) | none => none
          | _ => none
        | _ => none
def packS : List SV → SV
  | [v] => v
  | vs => .tup vs
def enterS : Nat → List SV → En → En
  | _, [], E => E
  | k, v :: vs, E => enterS (k + 1) vs ((k, v) :: E)
def codeS (P : Program) (X : List (FuncId × XK)) (ih : IH) (n : Nat) (top : Bool) : Code → En → St → Option (Ex × En × St)
  | .skip, E, s => some (.nor, E, s)
  | .ret, E, s => some (.ret, E, s)
  | .exit id, E, s => some (.exit id, E, s)
  | .region _ ops draw, E, s => match (cond draw (runDraw P X ih n ops E s) (runOps P X ih n ops ops.toList E s)) with
    | some (E', s') => some (.nor, E', s')
    | none => none
  | .seq a b, E, s => match codeS P X ih n top a E s with
    | some (.nor, E', s') => codeS P X ih n top b E' s'
    | r => r
  | .cond x a b, E, s => match ev E x with
    | some (.bool (.lit true)) => codeS P X ih n top a E s
    | some (.bool (.lit false)) => codeS P X ih n top b E s
    | _ => none
  | .block id a, E, s => match codeS P X ih n top a E s with
    | some (.exit j, E', s') => cond (Nat.beq j id) (some (.nor, E', s')) (some (.exit j, E', s'))
    | r => r
  | .loop a, E, s => match codeS P X ih n top a E s with
    | some (.nor, E', s') => ih.code n top (.loop a) (ded E' []) s'
    | r => r
  | .scope a, E, s => match top with
    | true => codeS P X ih n top a E s
    | false => none
  | .rangeFunc x ps az bd, E, s => match top, ev E x with
    | true, some (.fn f a b) =>
      let s1 := s.new .mark
      let s2 := s1.new (.loop n E ps.toList az bd .nor)
      match ih.call f (a ++ [.yld s1.next] ++ b) ⟨s2.heap, s2.next, []⟩ with
      | some (_, s3) => match s3.heap.get s1.next with
        | some (.loop _ _ _ _ _ x) => some (x, E, ⟨s3.heap.set s1.next .gone, s3.next, s.next :: s.ms⟩)
        | _ => none
      | none => none
    | _, _ => none
  | _, _, _ => none
def marksOk (h : Tri AO) : List Nat → Bool
  | [] => true
  | i :: l => (match h.get i with | some .mark => true | _ => false) && !(l.any (Nat.beq i)) && marksOk h l
def dropMs (h : Tri AO) : List Nat → Tri AO
  | [] => h
  | i :: l => dropMs (h.set i .gone) l
def funS (P : Program) (X : List (FuncId × XK)) (ih : IH) (f : FuncId) (vs : List SV) (s : St) : Option (SV × St) := match P.funcs[f]? with
  | some fn => match fn.body with
    | some c => cond (Nat.ble vs.length fn.ntmps && !(fn.name == "runtime.NumGoroutine")) (match codeS P X ih fn.ntmps true c (enterS 0 vs []) s with
      | some (x, E, s') => match x with
        | .exit _ => none
        | _ => cond (marksOk s'.heap s'.ms) (match resOf P E ⟨dropMs s'.heap s'.ms, s'.next, []⟩ fn.results.toList with
          | some rs => some (packS rs, ⟨dropMs s'.heap s'.ms, s'.next, []⟩)
          | none => none) none
      | _ => none) none
    | none => none
  | none => none
def run (P : Program) (X : List (FuncId × XK)) : Nat → IH
  | 0 => ⟨fun _ _ _ _ _ => none, fun _ _ _ => none⟩
  | n + 1 => ⟨fun k t c E s => codeS P X (run P X n) k t c E s, fun f vs s => funS P X (run P X n) f vs s⟩
end Go.Acq.Vx
noncomputable section
namespace Go.Acq.Vx
open Go Go.Acq Go.RowKit
section tri
variable {α : Type}
theorem getP_e : ∀ p : List Bool, Kh p (.e : Tri α) = none
 | [] => rfl
 | _ :: _ => rfl
theorem getP_set (v : α) : ∀ (p q : List Bool) (t : Tri α), Kh q (setP p v t) = if p = q then some v else Kh q t
 | [], [], .e => rfl
 | [], [], .n _ _ _ => rfl
 | [], b :: q, .e => by
  show (Bool.rec (Kh q (.e : Tri α)) (Kh q (.e : Tri α)) b : Option α) = none
  cases b <;> exact getP_e q
 | [], b :: q, .n w l r => rfl
 | true :: p, [], .e => rfl
 | false :: p, [], .e => rfl
 | true :: p, [], .n _ _ _ => rfl
 | false :: p, [], .n _ _ _ => rfl
 | true :: p, true :: q, .e => by
  show Kh q (setP p v .e) = _
  rw [getP_set v p q .e]; simp only [List.cons.injEq, true_and]; split <;> first | rfl | exact getP_e q
 | false :: p, false :: q, .e => by
  show Kh q (setP p v .e) = _
  rw [getP_set v p q .e]; simp only [List.cons.injEq, true_and]; split <;> first | rfl | exact getP_e q
 | true :: p, false :: q, .e => by
  show Kh q (.e : Tri α) = _
  rw [getP_e, if_neg (by simp)]; rfl
 | false :: p, true :: q, .e => by
  show Kh q (.e : Tri α) = _
  rw [getP_e, if_neg (by simp)]; rfl
 | true :: p, true :: q, .n w l r => by
  show Kh q (setP p v l) = _
  rw [getP_set v p q l]; simp only [List.cons.injEq, true_and]; rfl
 | false :: p, false :: q, .n w l r => by
  show Kh q (setP p v r) = _
  rw [getP_set v p q r]; simp only [List.cons.injEq, true_and]; rfl
 | true :: p, false :: q, .n w l r => by
  show Kh q r = _
  rw [if_neg (by simp)]; rfl
 | false :: p, true :: q, .n w l r => by
  show Kh q l = _
  rw [if_neg (by simp)]; rfl
def pthA (f k : Nat) : List Bool := @Nat.rec (fun _ => Nat → List Bool) (fun _ => []) (fun _ ih k => @Nat.rec (fun _ => List Bool) [] (fun j _ => Nat.beq (j % 2) 0 :: ih (j / 2)) k) f k
theorem pthA_inj : ∀ (f g k j : Nat), k ≤ f → j ≤ g → pthA f k = pthA g j → k = j
 | 0, 0, k, j, h1, h2, _ => by omega
 | 0, g + 1, k, 0, h1, h2, _ => by omega
 | 0, g + 1, k, j + 1, h1, h2, h => by
  exact absurd h (by show ¬ ([] = _ :: _); simp)
 | f + 1, 0, 0, j, h1, h2, _ => by omega
 | f + 1, 0, k + 1, j, h1, h2, h => by
  exact absurd h (by show ¬ (_ :: _ = []); simp)
 | f + 1, g + 1, 0, 0, h1, h2, _ => rfl
 | f + 1, g + 1, 0, j + 1, h1, h2, h => absurd h (by show ¬ ([] = _ :: _); simp)
 | f + 1, g + 1, k + 1, 0, h1, h2, h => absurd h (by show ¬ (_ :: _ = []); simp)
 | f + 1, g + 1, k + 1, j + 1, h1, h2, h => by
  have h' : (Nat.beq (k % 2) 0 :: pthA f (k / 2)) = (Nat.beq (j % 2) 0 :: pthA g (j / 2)) := h
  injection h' with ha hb
  have := pthA_inj f g (k / 2) (j / 2) (by omega) (by omega) hb
  have hm : k % 2 = j % 2 := by
   rcases Nat.mod_two_eq_zero_or_one k with e | e <;> rcases Nat.mod_two_eq_zero_or_one j with e' | e' <;> rw [e, e'] at ha ⊢ <;> simp at ha
  omega
theorem pth_inj {k j : Nat} (h : pth k = pth j) : k = j := pthA_inj k j k j (Nat.le_refl _) (Nat.le_refl _) h
theorem Tri.get_set (t : Tri α) (k j : Nat) (v : α) : (t.set k v).get j = if k = j then some v else t.get j := by
 unfold Tri.get Tri.set
 rw [getP_set]
 by_cases h : k = j
 · subst h; simp
 · rw [if_neg h, if_neg (fun e => h (pth_inj e))]
theorem Tri.get_e (j : Nat) : (.e : Tri α).get j = none := getP_e _
end tri
def SE.val (vr : Nat → Int) : SE → Int
  | .lit n => n
  | .var i => vr i
  | .bin .add k a b => k.wrap (a.val vr + b.val vr)
  | .bin .sub k a b => k.wrap (a.val vr - b.val vr)
  | .bin .mul k a b => k.wrap (a.val vr * b.val vr)
  | .bin _ _ _ _ => 0
  | .wr k a => k.wrap (a.val vr)
def SB.val (vr : Nat → Int) : SB → Bool
  | .lit b => b
  | .cmp .eql a b => decide (a.val vr = b.val vr)
  | .cmp .lss a b => decide (a.val vr < b.val vr)
  | .cmp .leq a b => decide (a.val vr ≤ b.val vr)
  | .cmp _ _ _ => false
abbrev Nm := Nat → Option (Nat × Nat)
def Nm.le (σ σ' : Nm) : Prop := ∀ i p, σ i = some p → σ' i = some p
mutual
inductive VR (vr : Nat → Int) (σ : Nm) : SV → Value → Prop where
  | int {k : IntKind} {e : SE} : VR vr σ (.int k e) (.int k (e.val vr))
  | bool {b : SB} : VR vr σ (.bool b) (.bool (b.val vr))
  | ptr {i o b r : Nat} (h : σ i = some (b, r)) : VR vr σ (.ptr i o) (.pointer (some ⟨b, o, none⟩))
  | nilp : VR vr σ .nilp (.pointer none)
  | slL {i o n c b r : Nat} (h : σ i = some (b, r)) (hc : n ≤ c) : VR vr σ (.sl i o n (.lit c)) (.slice (some ⟨b, o, none⟩) n c)
  | slR {i o n l b r : Nat} (h : σ i = some (b, r)) (hc : n ≤ r - l) : VR vr σ (.sl i o n (.rest l)) (.slice (some ⟨b, o, none⟩) n (r - l))
  | emp {i o c b r : Nat} (h : σ i = some (b, r)) : VR vr σ (.emp i) (.slice (some ⟨b, o, none⟩) 0 c)
  | nils : VR vr σ .nils (.slice none 0 0)
  | fn {f : FuncId} {a b : List SV} {xs ys : List Value} (ha : VRs vr σ a xs) (hb : VRs vr σ b ys) : VR vr σ (.fn f a b) (.func (.func f) xs.toArray ys.toArray)
  | nilf : VR vr σ .nilf .nilFunc
  | yld {i b r : Nat} (h : σ i = some (b, r)) : VR vr σ (.yld i) (.func (.yield b) #[] #[])
  | agg {cs : List SV} {xs : List Value} (h : VRs vr σ cs xs) : VR vr σ (.agg cs) (.agg xs.toArray)
  | tup {cs : List SV} {xs : List Value} (h : VRs vr σ cs xs) : VR vr σ (.tup cs) (.tuple xs.toArray)
  | und : VR vr σ .und undef
inductive VRs (vr : Nat → Int) (σ : Nm) : List SV → List Value → Prop where
  | nil : VRs vr σ [] []
  | cons {v : SV} {x : Value} {vs : List SV} {xs : List Value} (h : VR vr σ v x) (hs : VRs vr σ vs xs) : VRs vr σ (v :: vs) (x :: xs)
end
section vr
variable {vr : Nat → Int} {σ σ' : Nm}
mutual
theorem VR.mono (hσ : σ.le σ') : ∀ {v : SV} {x : Value}, VR vr σ v x → VR vr σ' v x
 | _, _, .int => .int
 | _, _, .bool => .bool
 | _, _, .ptr h => .ptr (hσ _ _ h)
 | _, _, .nilp => .nilp
 | _, _, .slL h hc => .slL (hσ _ _ h) hc
 | _, _, .slR h hc => .slR (hσ _ _ h) hc
 | _, _, .emp h => .emp (hσ _ _ h)
 | _, _, .nils => .nils
 | _, _, .fn ha hb => .fn (VRs.mono hσ ha) (VRs.mono hσ hb)
 | _, _, .nilf => .nilf
 | _, _, .yld h => .yld (hσ _ _ h)
 | _, _, .agg h => .agg (VRs.mono hσ h)
 | _, _, .tup h => .tup (VRs.mono hσ h)
 | _, _, .und => .und
theorem VRs.mono (hσ : σ.le σ') : ∀ {vs : List SV} {xs : List Value}, VRs vr σ vs xs → VRs vr σ' vs xs
 | _, _, .nil => .nil
 | _, _, .cons h hs => .cons (VR.mono hσ h) (VRs.mono hσ hs)
end
theorem VRs.length : ∀ {vs : List SV} {xs : List Value}, VRs vr σ vs xs → vs.length = xs.length
 | _, _, .nil => rfl
 | _, _, .cons _ hs => by simp [VRs.length hs]
theorem VRs.get : ∀ {vs : List SV} {xs : List Value}, VRs vr σ vs xs → ∀ {k : Nat} {v : SV}, vs[k]? = some v → ∃ x, xs[k]? = some x ∧ VR vr σ v x
 | _, _, .nil, k, v, h => by simp at h
 | _, _, .cons h0 hs, 0, v, h => by simp at h; subst h; exact ⟨_, rfl, h0⟩
 | _, _, .cons h0 hs, k + 1, v, h => by simp at h; obtain ⟨x, h1, h2⟩ := VRs.get hs h; exact ⟨x, by simpa using h1, h2⟩
theorem VRs.append : ∀ {vs ws : List SV} {xs ys : List Value}, VRs vr σ vs xs → VRs vr σ ws ys → VRs vr σ (vs ++ ws) (xs ++ ys)
 | _, _, _, _, .nil, h => h
 | _, _, _, _, .cons h0 hs, h => .cons h0 (VRs.append hs h)
theorem VR.oneCell {v : SV} {x : Value} (h : VR vr σ v x) (hc : v.isC = true) : x.oneCell' = true := by
 cases h <;> first | rfl | (simp [SV.isC] at hc)
theorem cst_ok {x : Value} {v : SV} (h : cst x = some v) : VR vr σ v x := by
 unfold cst at h
 split at h <;> first | (injection h with h; subst h; constructor) | cases h
theorem csts_ok : ∀ {xs : List Value} {vs : List SV}, csts xs = some vs → VRs vr σ vs xs
 | [], vs, h => by simp [csts] at h; subst h; exact .nil
 | x :: xs, vs, h => by
  simp only [csts] at h
  cases h0 : cst x with
  | none => simp [h0] at h
  | some v =>
   cases h1 : csts xs with
   | none => simp [h0, h1] at h
   | some ws => simp [h0, h1] at h; subst h; exact .cons (cst_ok h0) (csts_ok h1)
theorem cstA_ok {x : Value} {v : SV} (h : cstA x = some v) : VR vr σ v x := by
 unfold cstA at h
 split at h
 ·
  rename_i cs
  cases h1 : csts cs.toList with
  | none => simp [h1] at h
  | some ws => simp [h1] at h; subst h; exact .agg (csts_ok h1)
 · exact cst_ok h
end vr
end Go.Acq.Vx
noncomputable section
namespace Go.Acq.Vx
open Go Go.Acq Go.RowKit
def AO.live : AO → Bool
  | .gone => false
  | _ => true
structure FE (vr : Nat → Int) (σ : Nm) (n : Nat) (E : En) (tmps : Array Value) : Prop where
  size : tmps.size = n
  get : ∀ t v, fnd t E = some v → VR vr σ v (tmps.getD t undef)
def stOf : Ex → LoopState
  | .nor => .ready
  | _ => .done
def pdOf : Ex → Option Code
  | .nor => none
  | .ret => some .ret
  | .exit id => some (.exit id)
inductive OR (P : Program) (vr : Nat → Int) (σ : Nm) (r : Nat) : AO → Obj → Prop where
  | cells {cs : Tri SV} {n : Nat} {t : TypeId} {more : Bool} {arr : Array Value}
      (hc : ∀ j v, cs.get j = some v → j < n ∧ v.isC = true ∧ ∃ x, arr[j]? = some x ∧ VR vr σ v x) (hn : n ≤ arr.size)
      (h0 : more = false → arr.size = n) (h1 : more = true → ∀ d, Yq P t = some d → arr.size = r * d) : OR P vr σ r (.cells cs n t more) (.cells arr t (0, 0))
  | loop {n : Nat} {E : En} {ps : List Nat} {az bd : Code} {x : Ex} {fn : FuncId} {tmps : Array Value} {df : Nat} (h : FE vr σ n E tmps) :
      OR P vr σ r (.loop n E ps az bd x) (.loop { state := stOf x, pending := pdOf x, fn, tmps, params := ps.toArray, assign := az, body := bd, defers := df })
  | busy {n : Nat} {E : En} {ps : List Nat} {az bd : Code} {pd : Option Code} {fn : FuncId} {tmps : Array Value} {df : Nat} (h : FE vr σ n E tmps) :
      OR P vr σ r (.busy n E ps az bd) (.loop { state := .busy, pending := pd, fn, tmps, params := ps.toArray, assign := az, body := bd, defers := df })
  | mark : OR P vr σ r .mark (.deferred (some []))
  | gone {o : Obj} : OR P vr σ r .gone o
structure WR (P : Program) (vr : Nat → Int) (σ : Nm) (w0 : World) (M B : List Nat) (s : St) (w : World) : Prop where
  os : w.os = w0.os
  tape : w.tape = w0.tape
  output : w.output = w0.output
  size : w0.heap.size ≤ w.heap.size
  keep : ∀ b, b < w0.heap.size → b ∉ M → w.heap[b]? = w0.heap[b]?
  own : ∀ i o b r, s.heap.get i = some o → o.live = true → σ i = some (b, r) → ∃ ob, w.heap[b]? = some ob ∧ OR P vr σ r o ob
  low : ∀ i o b r, s.heap.get i = some o → o.live = true → σ i = some (b, r) → w0.heap.size ≤ b ∨ b ∈ M
  inj : ∀ i j o p b r r', s.heap.get i = some o → o.live = true → s.heap.get j = some p → p.live = true → σ i = some (b, r) → σ j = some (b, r') → i = j
  fresh : ∀ i, s.next ≤ i → σ i = none
  /-- names that are kept back -/
  back : ∀ i, i ∈ B → i < s.next ∧ σ i = none
section mono
variable {P : Program} {vr : Nat → Int} {σ σ' : Nm}
theorem FE.mono (hσ : σ.le σ') {n : Nat} {E : En} {tmps : Array Value} (h : FE vr σ n E tmps) : FE vr σ' n E tmps := ⟨h.size, fun t v ht => (h.get t v ht).mono hσ⟩
theorem OR.mono (hσ : σ.le σ') {r : Nat} {o : AO} {ob : Obj} (h : OR P vr σ r o ob) : OR P vr σ' r o ob := by
 cases h with
 | cells hc hn h0 h1 => exact .cells (fun j v hj => let ⟨a, b, x, c, d⟩ := hc j v hj; ⟨a, b, x, c, d.mono hσ⟩) hn h0 h1
 | loop h => exact .loop (h.mono hσ)
 | busy h => exact .busy (h.mono hσ)
 | mark => exact .mark
 | gone => exact .gone
end mono
section reads
variable {P : Program} {vr : Nat → Int} {σ : Nm} {w0 w : World} {M B : List Nat} {s : St} {E : En} {n : Nat} {a : Act}
theorem FE.ev (hf : FE vr σ n E a.tmps) {x : Operand} {v : SV} (h : ev E x = some v) : VR vr σ v (a.eval x) := by
 cases x with
 | tmp t => exact hf.get t v h
 | const u => exact cstA_ok h
 | global g => simp [Vx.ev] at h
 | func f =>
  simp only [Vx.ev] at h
  injection h with h
  subst h
  exact .fn .nil .nil
theorem FE.evs (hf : FE vr σ n E a.tmps) : ∀ {l : List Operand} {vs : List SV}, Vx.evs E l = some vs → VRs vr σ vs (l.map a.eval)
 | [], vs, h => by simp [Vx.evs] at h; subst h; exact .nil
 | x :: l, vs, h => by
  simp only [Vx.evs] at h
  cases h0 : Vx.ev E x with
  | none => simp [h0] at h
  | some v =>
   cases h1 : Vx.evs E l with
   | none => simp [h0, h1] at h
   | some ws => simp [h0, h1] at h; subst h; exact .cons (hf.ev h0) (hf.evs h1)
theorem WR.cell (hw : WR P vr σ w0 M B s w) {i j m : Nat} {cs : Tri SV} {t : TypeId} {more : Bool} (hi : s.heap.get i = some (.cells cs m t more)) {v : SV} (hj : cs.get j = some v) {b r : Nat} (hσ : σ i = some (b, r)) :
    v.isC = true ∧ ∃ x, w.cell? ⟨b, j, none⟩ = some x ∧ VR vr σ v x := by
  obtain ⟨ob, h2, h3⟩ := hw.own i _ b r hi rfl hσ
  cases h3 with
  | cells hc hn h0 hm =>
    obtain ⟨_, h4, x, h5, h6⟩ := hc j v hj
    exact ⟨h4, x, by simp [World.cell?, h2, h5], h6⟩
theorem VRs.sub {vs : List SV} {xs : List Value} (h : VRs vr σ vs xs) : ∀ {k n : Nat}, VRs vr σ ((vs.drop k).take n) ((xs.drop k).take n) := by
 have h1 : ∀ {vs : List SV} {xs : List Value}, VRs vr σ vs xs → ∀ k, VRs vr σ (vs.drop k) (xs.drop k) := by
  intro vs xs h k
  induction k generalizing vs xs with
  | zero => exact h
  | succ k ih => cases h with
   | nil => exact .nil
   | cons h0 hs => exact ih hs
 have h2 : ∀ {vs : List SV} {xs : List Value}, VRs vr σ vs xs → ∀ k, VRs vr σ (vs.take k) (xs.take k) := by
  intro vs xs h k
  induction k generalizing vs xs with
  | zero => exact .nil
  | succ k ih => cases h with
   | nil => exact .nil
   | cons h0 hs => exact .cons h0 (ih hs)
 intro k n
 exact h2 (h1 h k) n
end reads
end Go.Acq.Vx
noncomputable section
namespace Go.Acq.Vx
open Go Go.Acq Go.RowKit
section inv
variable {vr : Nat → Int} {σ : Nm} {x : Value}
end inv
section ops
variable {P : Program} {vr : Nat → Int} {σ : Nm} {w0 w : World} {M B : List Nat} {s : St} {E : En} {n : Nat} {a : Act} {d : Option Nat} {ty : TypeId} {pos : String} {af : Array Edge} {g : Option (Nat × Bool)} {v : SV}
theorem run_equalIn_fn {P : Program} (w : World) (n : Nat) {t : TypeId} {ps rs : Array TypeId} {vd : Bool} (ht : P.underlying t = some (.func ps rs vd)) (f : Fn) (x y : Array Value) : (Op.equalIn (n + 1) t (.func f x y) .nilFunc).run P w = .ok false w := by
 simp [Op.equalIn, run_underlying ht]
end ops
end Go.Acq.Vx
noncomputable section
namespace Go.Acq.Vx
open Go Go.Acq Go.RowKit
section ops
variable {P : Program} {vr : Nat → Int} {σ : Nm} {w0 w : World} {M B : List Nat} {s : St} {E : En} {n : Nat} {a : Act} {d : Option Nat} {ty : TypeId} {pos : String} {af : Array Edge} {g : Option (Nat × Bool)} {v : SV}
theorem blt_lt {a b : Nat} (h : Nat.blt a b = true) : a < b := by
 have : Nat.ble (a + 1) b = true := h
 exact Nat.le_of_ble_eq_true this
end ops
end Go.Acq.Vx
noncomputable section
namespace Go.Acq.Vx
open Go Go.Acq Go.RowKit
section ops
variable {P : Program} {vr : Nat → Int} {σ : Nm} {w0 w : World} {M B : List Nat} {s : St} {E : En} {n : Nat} {a : Act} {d : Option Nat} {ty : TypeId} {pos : String} {af : Array Edge} {g : Option (Nat × Bool)} {v : SV}
theorem VRs.set : ∀ {vs : List SV} {xs : List Value}, VRs vr σ vs xs → ∀ {v : SV} {x : Value}, VR vr σ v x → ∀ k, VRs vr σ (vs.set k v) (xs.set k x)
 | _, _, .nil, v, x, h, k => by simpa using VRs.nil
 | _, _, .cons h0 hs, v, x, h, 0 => .cons h hs
 | _, _, .cons h0 hs, v, x, h, k + 1 => .cons h0 (hs.set h k)
end ops
end Go.Acq.Vx
noncomputable section
namespace Go.Acq.Vx
open Go Go.Acq Go.RowKit
def Nm.put (σ : Nm) (i b r : Nat) : Nm := fun j => if j = i then some (b, r) else σ j
section wr
variable {P : Program} {vr : Nat → Int} {σ : Nm} {w0 w w' : World} {M B : List Nat} {s s' : St}
theorem Nm.le_put {i b r : Nat} (h : σ i = none) : σ.le (σ.put i b r) := fun j p hj => by
 unfold Nm.put
 by_cases e : j = i
 · subst e; rw [h] at hj; cases hj
 · rw [if_neg e]; exact hj
theorem Nm.le_refl : σ.le σ := fun _ _ h => h
theorem Nm.le_trans {σ1 σ2 σ3 : Nm} (h : σ1.le σ2) (h' : σ2.le σ3) : σ1.le σ3 := fun i p hp => h' i p (h i p hp)
theorem Nm.put_same {i b r : Nat} : σ.put i b r i = some (b, r) := by simp [Nm.put]
theorem WR.drew (h : WR P vr σ w0 M B s w) : WR P vr σ w0 M B s w.drew := ⟨h.os, h.tape, h.output, h.size, h.keep, h.own, h.low, h.inj, h.fresh, h.back⟩
theorem WR.lt (h : WR P vr σ w0 M B s w) {i : Nat} {o : AO} (hi : s.heap.get i = some o) (hl : o.live = true) {b r : Nat} (hσ : σ i = some (b, r)) : b < w.heap.size := by
 obtain ⟨ob, h2, _⟩ := h.own i o b r hi hl hσ
 exact (Array.getElem?_eq_some_iff.1 h2).1
theorem WR.alloc (h : WR P vr σ w0 M B s w) {o : AO} {ob : Obj} {r : Nat} (hl : o.live = true) (hor : OR P vr (σ.put s.next w.heap.size r) r o ob) : WR P vr (σ.put s.next w.heap.size r) w0 M B (s.new o) (w.alloc ob) := by
 have hsz : (w.alloc ob).heap.size = w.heap.size + 1 := World.size_alloc ..
 have hle : σ.le (σ.put s.next w.heap.size r) := Nm.le_put (h.fresh _ (Nat.le_refl _))
 have hget : ∀ i p, (s.new o).heap.get i = some p → (i = s.next ∧ p = o) ∨ (i ≠ s.next ∧ s.heap.get i = some p) := fun i p hp => by
  have hp : (s.heap.set s.next o).get i = some p := hp
  rw [Tri.get_set] at hp
  by_cases e : s.next = i
  · rw [if_pos e] at hp; injection hp with hp; exact .inl ⟨e.symm, hp.symm⟩
  · rw [if_neg e] at hp; exact .inr ⟨fun e' => e e'.symm, hp⟩
 refine ⟨h.os, h.tape, h.output, by rw [hsz]; have := h.size; omega, fun b hb hm => ?_, fun i p b r' hp hpl hσ => ?_, fun i p b r' hp hpl hσ => ?_, fun i j p q b r' r'' hp hpl hq hql h1 h2 => ?_, fun i hi => ?_, fun i hi => ?_⟩
 · rw [Below.heap_alloc _ _ _ (by have := h.size; omega)]; exact h.keep b hb hm
 ·
  rcases hget i p hp with ⟨rfl, rfl⟩ | ⟨hne, hp⟩
  ·
   rw [Nm.put_same] at hσ; injection hσ with hσ; injection hσ with hσ hσ'; subst hσ; subst hσ'
   refine ⟨ob, ?_, hor⟩
   show (w.heap.push ob)[w.heap.size]? = some ob
   simp
  ·
   have hσ2 : σ i = some (b, r') := by unfold Nm.put at hσ; rwa [if_neg hne] at hσ
   obtain ⟨ob', h2, h3⟩ := h.own i p b r' hp hpl hσ2
   refine ⟨ob', ?_, h3.mono hle⟩
   rw [Below.heap_alloc _ _ _ (Array.getElem?_eq_some_iff.1 h2).1]; exact h2
 ·
  rcases hget i p hp with ⟨rfl, rfl⟩ | ⟨hne, hp⟩
  · rw [Nm.put_same] at hσ; injection hσ with hσ; injection hσ with hσ _; subst hσ; exact .inl h.size
  ·
   have : σ i = some (b, r') := by unfold Nm.put at hσ; rwa [if_neg hne] at hσ
   exact h.low i p b r' hp hpl this
 ·
  rcases hget i p hp with ⟨rfl, rfl⟩ | ⟨hne, hp1⟩ <;> rcases hget j q hq with ⟨rfl, rfl⟩ | ⟨hne', hq1⟩
  · rfl
  ·
   exfalso
   rw [Nm.put_same] at h1; injection h1 with h1; injection h1 with h1 _; subst h1
   unfold Nm.put at h2; rw [if_neg hne'] at h2
   have := h.lt hq1 hql h2; omega
  ·
   exfalso
   rw [Nm.put_same] at h2; injection h2 with h2; injection h2 with h2 _; subst h2
   unfold Nm.put at h1; rw [if_neg hne] at h1
   have := h.lt hp1 hpl h1; omega
  ·
   unfold Nm.put at h1 h2; rw [if_neg hne] at h1; rw [if_neg hne'] at h2
   exact h.inj i j p q b r' r'' hp1 hpl hq1 hql h1 h2
 ·
  have hi : s.next + 1 ≤ i := hi
  unfold Nm.put; rw [if_neg (by omega)]; exact h.fresh i (by omega)
 ·
  obtain ⟨h1, h2⟩ := h.back i hi
  refine ⟨Nat.lt_succ_of_lt h1, ?_⟩
  unfold Nm.put; rw [if_neg (by omega)]; exact h2
theorem WR.upd (h : WR P vr σ w0 M B s w) {i b r : Nat} {o o' : AO} {ob' : Obj} (hi : s.heap.get i = some o) (hl : o.live = true) (hσ : σ i = some (b, r)) (hor : OR P vr σ r o' ob')
    (h1 : w'.os = w.os) (h2 : w'.tape = w.tape) (h3 : w'.output = w.output) (h4 : w'.heap.size = w.heap.size) (h5 : w'.heap[b]? = some ob') (h6 : ∀ k, k ≠ b → w'.heap[k]? = w.heap[k]?) : WR P vr σ w0 M B (s.set i o') w' := by
  have hget : ∀ j p, (s.set i o').heap.get j = some p → (j = i ∧ p = o') ∨ (j ≠ i ∧ s.heap.get j = some p) := fun j p hp => by
    have hp : (s.heap.set i o').get j = some p := hp
    rw [Tri.get_set] at hp
    by_cases e : i = j
    · rw [if_pos e] at hp; injection hp with hp; exact .inl ⟨e.symm, hp.symm⟩
    · rw [if_neg e] at hp; exact .inr ⟨fun e' => e e'.symm, hp⟩
  have hlow := h.low i o b r hi hl hσ
  refine ⟨h1.trans h.os, h2.trans h.tape, h3.trans h.output, by rw [h4]; exact h.size, fun k hk hm => ?_, fun j p b' r' hp hpl hσ' => ?_, fun j p b' r' hp hpl hσ' => ?_, fun j k p q b' r' r'' hp hpl hq hql g1 g2 => ?_, h.fresh, h.back⟩
  · rw [h6 k ?_]
    · exact h.keep k hk hm
    · rintro rfl
      rcases hlow with hl' | hl'
      · omega
      · exact hm hl'
  · rcases hget j p hp with ⟨rfl, rfl⟩ | ⟨hne, hp⟩
    · rw [hσ] at hσ'; injection hσ' with e; injection e with e e'; subst e; subst e'
      exact ⟨ob', h5, hor⟩
    · obtain ⟨ob, g2, g3⟩ := h.own j p b' r' hp hpl hσ'
      refine ⟨ob, ?_, g3⟩
      rw [h6 b' ?_]; · exact g2
      · rintro rfl
        exact hne (h.inj j i p o b' r' r hp hpl hi hl hσ' hσ)
  · rcases hget j p hp with ⟨rfl, rfl⟩ | ⟨hne, hp⟩
    · rw [hσ] at hσ'; injection hσ' with e; injection e with e _; subst e; exact hlow
    · exact h.low j p b' r' hp hpl hσ'
  · rcases hget j p hp with ⟨rfl, rfl⟩ | ⟨hne, hp1⟩ <;> rcases hget k q hq with ⟨rfl, rfl⟩ | ⟨hne', hq1⟩
    · rfl
    · exact h.inj j k o q b' r' r'' hi hl hq1 hql g1 g2
    · exact h.inj j k p o b' r' r'' hp1 hpl hi hl g1 g2
    · exact h.inj j k p q b' r' r'' hp1 hpl hq1 hql g1 g2
theorem WR.ms (h : WR P vr σ w0 M B s w) (ms : List Nat) : WR P vr σ w0 M B ⟨s.heap, s.next, ms⟩ w := ⟨h.os, h.tape, h.output, h.size, h.keep, h.own, h.low, h.inj, h.fresh, h.back⟩
theorem WR.cells (h : WR P vr σ w0 M B s w) {i n : Nat} {cs : Tri SV} {t : TypeId} {m : Bool} (hi : s.heap.get i = some (.cells cs n t m)) {b r : Nat} (hσ : σ i = some (b, r)) : ∃ arr : Array Value, w.heap[b]? = some (.cells arr t (0, 0)) ∧
    (∀ j v, cs.get j = some v → j < n ∧ v.isC = true ∧ ∃ x, arr[j]? = some x ∧ VR vr σ v x) ∧ n ≤ arr.size ∧ (m = false → arr.size = n) ∧ (m = true → ∀ d, Yq P t = some d → arr.size = r * d) := by
  obtain ⟨ob, h2, h3⟩ := h.own i _ b r hi rfl hσ
  cases h3 with
  | cells hc hn h0 h1 => exact ⟨_, h2, hc, hn, h0, h1⟩
theorem VRs.mem {vs : List SV} {xs : List Value} (h : VRs vr σ vs xs) (ha : ∀ v, v ∈ vs → v.isC = true) : ∀ x, x ∈ xs → x.oneCell' = true := by
 induction vs generalizing xs with
 | nil => cases h; intro x hx; cases hx
 | cons v vs ih =>
  cases h with
  | cons h0 hs =>
   intro x hx
   rcases List.mem_cons.1 hx with rfl | hx
   · exact h0.oneCell (ha v (.head _))
   · exact ih hs (fun u hu => ha u (.tail _ hu)) x hx
end wr
end Go.Acq.Vx
noncomputable section
namespace Go.Acq.Vx
open Go Go.Acq Go.RowKit
section ops
variable {P : Program} {vr : Nat → Int} {σ : Nm} {ρ : Option Nat} {w0 w : World} {M B : List Nat} {s s' : St} {E : En} {n : Nat} {a : Act} {d : Option Nat} {ty : TypeId} {pos : String} {af : Array Edge} {g : Option (Nat × Bool)} {v : SV}
end ops
end Go.Acq.Vx
noncomputable section
namespace Go.Acq.Vx
open Go Go.Acq Go.RowKit
section ops
variable {P : Program} {vr : Nat → Int} {σ : Nm} {ρ : Option Nat} {w0 w : World} {M B : List Nat} {s s' : St} {E : En} {n : Nat} {a : Act} {d : Option Nat} {ty : TypeId} {pos : String} {af : Array Edge} {g : Option (Nat × Bool)} {v : SV}
end ops
end Go.Acq.Vx
noncomputable section
namespace Go.Acq.Vx
open Go Go.Acq Go.RowKit
section ops
variable {P : Program} {vr : Nat → Int} {σ : Nm} {ρ : Option Nat} {w0 w : World} {M B : List Nat} {s s' : St} {E : En} {n : Nat} {a : Act} {d : Option Nat} {ty : TypeId} {pos : String} {af : Array Edge} {g : Option (Nat × Bool)} {v : SV}
theorem VR.plain {σ' : Nm} {u : SV} {x : Value} (hp : plainC u = true) (h : VR vr σ u x) : VR vr σ' u x := by
 cases h <;> first | (simp [plainC] at hp; done) | constructor
theorem VRs.plain {σ' : Nm} : ∀ {us : List SV} {xs : List Value}, us.all plainC = true → VRs vr σ us xs → VRs vr σ' us xs
 | _, _, _, .nil => .nil
 | u :: us, _, hp, .cons h hs => by
  simp only [List.all_cons, Bool.and_eq_true] at hp
  exact .cons (h.plain hp.1) (VRs.plain hp.2 hs)
theorem WR.below {w' : World} (h : WR P vr σ w0 M B s w) (hi : Inv w [] w' []) : WR P vr σ w0 M B s w' := by
 refine ⟨hi.os.trans h.os, hi.tape.trans h.tape, hi.output.trans h.output, Nat.le_trans h.size hi.size, fun b hb hm => ?_, fun i o b r hi' hl hσ => ?_, h.low, h.inj, h.fresh, h.back⟩
 · rw [hi.keep b (Nat.lt_of_lt_of_le hb h.size) (by simp)]; exact h.keep b hb hm
 ·
  obtain ⟨ob, q1, q2⟩ := h.own i o b r hi' hl hσ
  exact ⟨ob, by rw [hi.keep b (h.lt hi' hl hσ) (by simp)]; exact q1, q2⟩
def XOk (P : Program) (f : FuncId) : XK → Prop
  | .ld => Ks P f (Extern.Atomic.loadT (.int .i64))
  | .st => Ks P f Extern.Atomic.storeT
  | .add => Ks P f (Extern.Atomic.update (Op.intArith .add) .i64 true)
  | .cas => Ks P f (Extern.Atomic.casT (.int .i64))
  | .known us v => Zx P f = true ∧ ∀ (vr : Nat → Int) (w : World) (args : List Value), VRs vr (fun _ => none) us args → Fnc P f args.toArray w [] (fun y N => (∀ σ, VR vr σ v y) ∧ N = [])
def XsOk (P : Program) : List (FuncId × XK) → Prop
  | [] => True
  | (f, k) :: X => XOk P f k ∧ XsOk P X
theorem XsOk.get : ∀ {X : List (FuncId × XK)}, XsOk P X → ∀ {f : FuncId} {vs : List SV} {k : XK}, extV X f vs = some k → XOk P f k ∧ kFits k vs = true
 | [], _, f, vs, k, h => by simp [extV] at h
 | (f', k') :: X, ⟨h1, h2⟩, f, vs, k, h => by
  simp only [extV] at h
  cases hb : (Nat.beq f f' && kFits k' vs) with
  | true =>
   rw [hb] at h; simp at h; subst h
   simp only [Bool.and_eq_true] at hb
   rw [Nat.eq_of_beq_eq_true hb.1]; exact ⟨h1, hb.2⟩
  | false => rw [hb] at h; exact XsOk.get h2 h
end ops
end Go.Acq.Vx
noncomputable section
namespace Go.Acq.Vx
open Go Go.Acq Go.RowKit
def MsR (σ : Nm) : List Nat → List Nat → Prop
  | [], [] => True
  | i :: l, b :: bs => (∃ r, σ i = some (b, r)) ∧ MsR σ l bs
  | _, _ => False
theorem MsR.mono {σ σ' : Nm} (h : σ.le σ') : ∀ {l bs : List Nat}, MsR σ l bs → MsR σ' l bs
 | [], [], _ => trivial
 | _ :: _, _ :: _, ⟨⟨r, h1⟩, h2⟩ => ⟨⟨r, h _ _ h1⟩, MsR.mono h h2⟩
structure FA (vr : Nat → Int) (σ : Nm) (n : Nat) (E : En) (ms : List Nat) (a : Act) : Prop where
  fe : FE vr σ n E a.tmps
  df : ∃ bs, a.defers = bs.map mkD ∧ MsR σ ms bs
section ops
variable {P : Program} {vr : Nat → Int} {σ : Nm} {ρ : Option Nat} {w0 w : World} {M B : List Nat} {s s' : St} {E : En} {n : Nat} {a : Act} {d : Option Nat} {ty : TypeId} {pos : String} {af : Array Edge} {g : Option (Nat × Bool)} {v : SV} {ih : IH}
theorem FA.mono {σ' : Nm} (hσ : σ.le σ') {ms : List Nat} (h : FA vr σ n E ms a) : FA vr σ' n E ms a := ⟨h.fe.mono hσ, let ⟨bs, h1, h2⟩ := h.df; ⟨bs, h1, h2.mono hσ⟩⟩
theorem fnd_cons (d t : Nat) (u : SV) (E : En) : fnd t ((d, u) :: E) = if d = t then some u else fnd t E := by
 simp only [fnd]
 by_cases h : d = t
 · subst h; simp
 ·
  rw [if_neg h]
  have : Nat.beq d t = false := by
   cases hb : Nat.beq d t
   · rfl
   · exact absurd (Nat.eq_of_beq_eq_true hb) h
  simp [this]
theorem FE.set {tmps : Array Value} (h : FE vr σ n E tmps) {t : Nat} (ht : t < n) {x : Value} (hv : VR vr σ v x) : FE vr σ n ((t, v) :: E) (tmps.setIfInBounds t x) := by
 refine ⟨by simpa using h.size, fun u q hu => ?_⟩
 rw [fnd_cons] at hu
 by_cases e : t = u
 ·
  subst e
  rw [if_pos rfl] at hu; injection hu with hu; subst hu
  have : t < tmps.size := by rw [h.size]; exact ht
  simpa [Array.getD_eq_getD_getElem?, this] using hv
 ·
  rw [if_neg e] at hu
  have := h.get u q hu
  simp only [Array.getD_eq_getD_getElem?] at *
  simpa [e] using this
theorem FA.put {ms : List Nat} (h : FA vr σ n E ms a) (hd : dstOk n d = true) {x : Value} (hv : VR vr σ v x) : FA vr σ n (putE E d v) ms (a.put d x) := by
 cases d with
 | none => exact h
 | some t =>
  have ht : t < n := blt_lt hd
  refine ⟨?_, h.df⟩
  have := h.fe.set ht hv
  simpa [Act.put, putE] using this
theorem WR.putObj (h : WR P vr σ w0 M B s w) {i b r : Nat} {o o' : AO} {ob' : Obj} (hi : s.heap.get i = some o) (hl : o.live = true) (hσ : σ i = some (b, r)) (hor : OR P vr σ r o' ob') : WR P vr σ w0 M B (s.set i o') (w.putObj b ob') :=
 h.upd hi hl hσ hor rfl rfl rfl World.putObj_size (World.putObj_heap_same (h.lt hi hl hσ)) (fun _ hk => World.putObj_heap_other hk)
end ops
end Go.Acq.Vx
noncomputable section
namespace Go.Acq.Vx
open Go Go.Acq Go.RowKit
section ops
variable {P : Program} {vr : Nat → Int} {X : List (FuncId × XK)} {σ : Nm} {ρ : Option Nat} {w0 w : World} {M B : List Nat} {s s' : St} {E : En} {n : Nat} {a : Act} {d : Option Nat} {ty : TypeId} {pos : String} {af : Array Edge} {g : Option (Nat × Bool)} {v : SV} {ih : IH}
end ops
end Go.Acq.Vx
