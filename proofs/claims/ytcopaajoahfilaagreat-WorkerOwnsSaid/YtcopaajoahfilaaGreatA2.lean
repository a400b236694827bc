/- Texts of this claim, one behind the other. -/
import Derived.Test.YtcopaajoahfilaaGreatA1
import Derived.Laws.Bits64b
import Derived.Deep.Slices
import Derived.Deep.Fields
import Derived.ChangeSame
import Derived.Lib.SmallJoins
import Derived.ProofKit
import Derived.ChangeArms
import Derived.RangeFuncSeq
import Derived.Conc.LoneCalls
import Derived.Conc.LoneSelectN
import Derived.Conc.SmallLaws
import Derived.Laws.StructEq
import Derived.Scope
import Derived.ChangeKeysEq
import Derived.Shelf.Spec.SlicesInsertGrow
import Derived.Laws.LoneSync
set_option linter.unusedVariables false
set_option linter.unusedSimpArgs false
namespace Go.Acq
open Go
structure Layout where
  Verts:Int
  Arcs:Int
  Workers:Int
  Room:Int
  Res:Int
  Ex:Int
  H:Int
  Flag:Int
  Pending:Int
  Ask:Int
  Count:Int
  Sense:Int
  Deques:Int
  Size:Int
  deriving DecidableEq
instance:Inhabited Layout:=⟨⟨default,default,default,default,default,default,default,default,default,default,default,default,default,default⟩⟩
structure DequePart where
  l:Layout
  w:Int
  at_:Int
  t:Int
  b:Int
  x:Int
  done:Bool
  got:Bool
  deriving DecidableEq
instance:Inhabited DequePart:=⟨⟨default,default,default,default,default,default,default,default⟩⟩
structure DequePop where
  part:DequePart
  deriving DecidableEq
instance:Inhabited DequePop:=⟨⟨default⟩⟩
structure DequeSteal where
  part:DequePart
  lost:Bool
  deriving DecidableEq
instance:Inhabited DequeSteal:=⟨⟨default,default⟩⟩
structure DequePush where
  part:DequePart
  v:Int
  deriving DecidableEq
instance:Inhabited DequePush:=⟨⟨default,default⟩⟩
structure BarrierArrive where
  l:Layout
  next:Int
  own:Int
  last:Bool
  deriving DecidableEq
instance:Inhabited BarrierArrive:=⟨⟨default,default,default,default⟩⟩
structure Evt where
  Who:Int
  What:Int
  U:Int
  Arc:Int
  D:Int
  H:Int
  Low:Int
  deriving DecidableEq
instance:Inhabited Evt:=⟨⟨default,default,default,default,default,default,default⟩⟩
def Vs (x:Evt):List Value:=[.int .i64 x.Who,.int .u8 x.What,.int .i64 x.U,.int .i64 x.Arc,.int .i64 x.D,.int .i64 x.H,.int .i64 x.Low]
structure WorkerWorker where
  c:Csr
  l:Layout
  id:Int
  limit:Int
  at_:Int
  pop:DequePop
  steal:DequeSteal
  put:DequePush
  arrive:BarrierArrive
  from_:Int
  u:Int
  v:Int
  h:Int
  e:Int
  wakes:Bool
  holds:Bool
  lifts:Int
  event:Evt
  has:Bool
  a:Int
  target:Int
  room:Int
  d:Int
  low:Int
  deriving DecidableEq
instance:Inhabited WorkerWorker:=⟨⟨default,default,default,default,default,default,default,default,default,default,default,default,default,default,default,default,default,default,default,default,default,default,default,default⟩⟩
def Zj (q1 q2 q3 q4 q5 q6:Option Addr×Nat×Nat)(x:WorkerWorker):List Value:=[.int .i64 x.c.N,.int .i64 x.c.S,.int .i64 x.c.T,.slice q1.1 q1.2.1 q1.2.2,.slice q2.1 q2.2.1 q2.2.2,.slice q3.1 q3.2.1 q3.2.2,.slice q4.1 q4.2.1 q4.2.2,.slice q5.1 q5.2.1 q5.2.2,.slice q6.1 q6.2.1 q6.2.2,.int .i64 x.l.Verts,.int .i64 x.l.Arcs,.int .i64 x.l.Workers,.int .i64 x.l.Room,.int .i64 x.l.Res,.int .i64 x.l.Ex,.int .i64 x.l.H,.int .i64 x.l.Flag,.int .i64 x.l.Pending,.int .i64 x.l.Ask,.int .i64 x.l.Count,.int .i64 x.l.Sense,.int .i64 x.l.Deques,.int .i64 x.l.Size,.int .i64 x.id,.int .i64 x.limit,.int .i64 x.at_,.int .i64 x.pop.part.l.Verts,.int .i64 x.pop.part.l.Arcs,.int .i64 x.pop.part.l.Workers,.int .i64 x.pop.part.l.Room,.int .i64 x.pop.part.l.Res,.int .i64 x.pop.part.l.Ex,.int .i64 x.pop.part.l.H,.int .i64 x.pop.part.l.Flag,.int .i64 x.pop.part.l.Pending,.int .i64 x.pop.part.l.Ask,.int .i64 x.pop.part.l.Count,.int .i64 x.pop.part.l.Sense,.int .i64 x.pop.part.l.Deques,.int .i64 x.pop.part.l.Size,.int .i64 x.pop.part.w,.int .i64 x.pop.part.at_,.int .i64 x.pop.part.t,.int .i64 x.pop.part.b,.int .i64 x.pop.part.x,.bool x.pop.part.done,.bool x.pop.part.got,.int .i64 x.steal.part.l.Verts,.int .i64 x.steal.part.l.Arcs,.int .i64 x.steal.part.l.Workers,.int .i64 x.steal.part.l.Room,.int .i64 x.steal.part.l.Res,.int .i64 x.steal.part.l.Ex,.int .i64 x.steal.part.l.H,.int .i64 x.steal.part.l.Flag,.int .i64 x.steal.part.l.Pending,.int .i64 x.steal.part.l.Ask,.int .i64 x.steal.part.l.Count,.int .i64 x.steal.part.l.Sense,.int .i64 x.steal.part.l.Deques,.int .i64 x.steal.part.l.Size,.int .i64 x.steal.part.w,.int .i64 x.steal.part.at_,.int .i64 x.steal.part.t,.int .i64 x.steal.part.b,.int .i64 x.steal.part.x,.bool x.steal.part.done,.bool x.steal.part.got,.bool x.steal.lost,.int .i64 x.put.part.l.Verts,.int .i64 x.put.part.l.Arcs,.int .i64 x.put.part.l.Workers,.int .i64 x.put.part.l.Room,.int .i64 x.put.part.l.Res,.int .i64 x.put.part.l.Ex,.int .i64 x.put.part.l.H,.int .i64 x.put.part.l.Flag,.int .i64 x.put.part.l.Pending,.int .i64 x.put.part.l.Ask,.int .i64 x.put.part.l.Count,.int .i64 x.put.part.l.Sense,.int .i64 x.put.part.l.Deques,.int .i64 x.put.part.l.Size,.int .i64 x.put.part.w,.int .i64 x.put.part.at_,.int .i64 x.put.part.t,.int .i64 x.put.part.b,.int .i64 x.put.part.x,.bool x.put.part.done,.bool x.put.part.got,.int .i64 x.put.v,.int .i64 x.arrive.l.Verts,.int .i64 x.arrive.l.Arcs,.int .i64 x.arrive.l.Workers,.int .i64 x.arrive.l.Room,.int .i64 x.arrive.l.Res,.int .i64 x.arrive.l.Ex,.int .i64 x.arrive.l.H,.int .i64 x.arrive.l.Flag,.int .i64 x.arrive.l.Pending,.int .i64 x.arrive.l.Ask,.int .i64 x.arrive.l.Count,.int .i64 x.arrive.l.Sense,.int .i64 x.arrive.l.Deques,.int .i64 x.arrive.l.Size,.int .u8 x.arrive.next,.int .i64 x.arrive.own,.bool x.arrive.last,.int .i64 x.from_,.int .i64 x.u,.int .i64 x.v,.int .i64 x.h,.int .i64 x.e,.bool x.wakes,.bool x.holds,.int .i64 x.lifts,.int .i64 x.event.Who,.int .u8 x.event.What,.int .i64 x.event.U,.int .i64 x.event.Arc,.int .i64 x.event.D,.int .i64 x.event.H,.int .i64 x.event.Low,.bool x.has,.int .i64 x.a,.int .i64 x.target,.int .i64 x.room,.int .i64 x.d,.int .i64 x.low]
structure AtomicInt64 where
  v:Int
  deriving DecidableEq
instance:Inhabited AtomicInt64:=⟨⟨default⟩⟩
structure CellsBank where
  l:List Int
  deriving DecidableEq
instance:Inhabited CellsBank:=⟨⟨default⟩⟩
structure CountOnce where
  done:Bool
  is:Bool
  deriving DecidableEq
instance:Inhabited CountOnce:=⟨⟨default,default⟩⟩
structure CountAsked where
  o:CountOnce
  deriving DecidableEq
instance:Inhabited CountAsked:=⟨⟨default⟩⟩
structure CountZero where
  o:CountOnce
  deriving DecidableEq
instance:Inhabited CountZero:=⟨⟨default⟩⟩
structure FlagsOnce where
  cell:Int
  done:Bool
  deriving DecidableEq
instance:Inhabited FlagsOnce:=⟨⟨default,default⟩⟩
structure FlagsClaim where
  once:FlagsOnce
  got:Bool
  deriving DecidableEq
instance:Inhabited FlagsClaim:=⟨⟨default,default⟩⟩
structure CountUp where
  o:CountOnce
  deriving DecidableEq
instance:Inhabited CountUp:=⟨⟨default⟩⟩
structure CountAsk where
  o:CountOnce
  deriving DecidableEq
instance:Inhabited CountAsk:=⟨⟨default⟩⟩
structure FlagsFree where
  once:FlagsOnce
  deriving DecidableEq
instance:Inhabited FlagsFree:=⟨⟨default⟩⟩
structure CountDown where
  o:CountOnce
  deriving DecidableEq
instance:Inhabited CountDown:=⟨⟨default⟩⟩
def Wp (w0:WorkerWorker):Option (Bool) :=
  some (decide (w0.limit=0))
def Xm (w0:WorkerWorker):Option (Bool) :=
  Option.bind (Wp w0) fun r1 =>
  if r1=true then
  (some true)
  else
  some (decide (w0.at_=25))
def Rr (p0:WorkerWorker):Option (Int×WorkerWorker) :=
  if p0.pop.part.done=true then
  (some ((-1),p0))
  else
  gd (i64ok (p0.pop.part.at_+1)) <|
  gd (i64ok ((p0.pop.part.at_+1)-1)) <|
  some (((p0.pop.part.at_+1)-1),({ p0 with pop:=(DequePop.mk ({ p0.pop.part with at_:=(p0.pop.part.at_+1) }:DequePart)) }:WorkerWorker))
def Jk (l0:Layout)(w1:Int):Option (Int) :=
  gd (i64ok (l0.Room+2)) <|
  gd (i64ok (w1*(l0.Room+2))) <|
  gd (i64ok (l0.Deques+(w1*(l0.Room+2)))) <|
  some (l0.Deques+(w1*(l0.Room+2)))
def Kl (l0:Layout)(w1:Int):Option (Int) :=
  Option.bind (Jk l0 w1) fun r3 =>
  gd (i64ok (r3+1)) <|
  some (r3+1)
def Lx (p0:WorkerWorker):Option (Int) :=
  Option.bind (Kl p0.pop.part.l p0.pop.part.w) fun r1 =>
  some r1
def Lc (b0:CellsBank)(i1:Int):Option (Unit) :=
  if i1<0 then
  (none)
  else
  if (b0.l.length:Int)≤i1 then
  (none)
  else
  gd (inb i1 b0.l.length) <|
  some ()
def Z98 (x0:List Int)(a0:Int):Option (Int) :=
  some (x0.getD a0.toNat 0)
def Z2q (b0:CellsBank)(i1:Int):Option (Unit) :=
  if i1<0 then
  (some ())
  else
  if (b0.l.length:Int)≤i1 then
  (some ())
  else
  none
def Vl (b0:CellsBank)(i1:Int):Option (Int) :=
  if inb i1 b0.l.length then
  (Option.bind (Lc b0 i1) fun _ =>
  Option.bind (Z98 b0.l i1) fun r3 =>
  some r3)
  else
  Option.bind (Z2q b0 i1) fun _ =>
  some 0
def Z86 (p0:WorkerWorker)(b1:CellsBank):Option (WorkerWorker) :=
  Option.bind (Lx p0) fun r2 =>
  Option.bind (Vl b1 r2) fun r4 =>
  some ({ p0 with pop:=(DequePop.mk ({ p0.pop.part with b:=r4 }:DequePart)) }:WorkerWorker)
def Zb9 (p0:WorkerWorker)(b1:CellsBank):Option (WorkerWorker) :=
  Option.bind (Z86 p0 b1) fun r2 =>
  gd (i64ok (r2.pop.part.b-1)) <|
  some ({ p0 with pop:=(DequePop.mk ({ p0.pop.part with b:=(r2.pop.part.b-1) }:DequePart)) }:WorkerWorker)
def Z85 (x0:List Int)(a1 a0:Int):Option (List Int) :=
  some (x0.set a1.toNat a0)
def Ka (b0:CellsBank)(i1 v2:Int):Option (CellsBank) :=
  if inb i1 b0.l.length then
  (Option.bind (Lc b0 i1) fun _ =>
  Option.bind (Z85 b0.l i1 v2) fun r5 =>
  some (CellsBank.mk r5))
  else
  Option.bind (Z2q b0 i1) fun _ =>
  some b0
def Zb0 (p0:WorkerWorker)(b1:CellsBank):Option (CellsBank) :=
  Option.bind (Lx p0) fun r3 =>
  Option.bind (Ka b1 r3 p0.pop.part.b) fun r5 =>
  some r5
def Z3v (p0:WorkerWorker):Option (Int) :=
  Option.bind (Jk p0.pop.part.l p0.pop.part.w) fun r1 =>
  some r1
def Z8y (p0:WorkerWorker)(b1:CellsBank):Option (WorkerWorker) :=
  Option.bind (Z3v p0) fun r2 =>
  Option.bind (Vl b1 r2) fun r4 =>
  some ({ p0 with pop:=(DequePop.mk ({ p0.pop.part with t:=r4 }:DequePart)) }:WorkerWorker)
def Zad (p0:WorkerWorker)(b1:CellsBank):Option (WorkerWorker) :=
  Option.bind (Z8y p0 b1) fun r2 =>
  some ({ p0 with pop:=(DequePop.mk ({ p0.pop.part with t:=r2.pop.part.t }:DequePart)) }:WorkerWorker)
def Z2j (p0:WorkerWorker)(b1:CellsBank):Option (WorkerWorker×CellsBank) :=
  Option.bind (Lx p0) fun r4 =>
  gd (i64ok (p0.pop.part.b+1)) <|
  Option.bind (Ka b1 r4 (p0.pop.part.b+1)) fun r7 =>
  some (({ p0 with pop:=(DequePop.mk ({ p0.pop.part with done:=true }:DequePart)) }:WorkerWorker),r7)
def Gk (l0:Layout)(w1 a0:Int):Option (Int) :=
  Option.bind (Jk l0 w1) fun r3 =>
  gd (i64ok (r3+2)) <|
  gd (i64ok (l0.Room-1)) <|
  gd (i64ok ((r3+2)+(band .i64 a0 (l0.Room-1)))) <|
  some ((r3+2)+(band .i64 a0 (l0.Room-1)))
def Z9h (p0:WorkerWorker)(a0:Int):Option (Int) :=
  Option.bind (Gk p0.pop.part.l p0.pop.part.w a0) fun r1 =>
  some r1
def Z9a (p0:WorkerWorker)(a0:Bool):Option (WorkerWorker) :=
  some ({ p0 with pop:=(DequePop.mk ({ p0.pop.part with done:=true,got:=a0 }:DequePart)) }:WorkerWorker)
def Z94 (p0:WorkerWorker)(b1:CellsBank):Option (WorkerWorker×CellsBank) :=
  if p0.pop.part.b<p0.pop.part.t then
  (Option.bind (Z2j p0 b1) fun (r5,r6) =>
  some (({ p0 with pop:=(DequePop.mk ({ p0.pop.part with done:=r5.pop.part.done }:DequePart)) }:WorkerWorker),r6))
  else
  Option.bind (Z9h p0 p0.pop.part.b) fun r9 =>
  Option.bind (Vl b1 r9) fun a0 =>
  if p0.pop.part.t<p0.pop.part.b then
  (Option.bind (Z9a ({ p0 with pop:=(DequePop.mk ({ p0.pop.part with x:=a0 }:DequePart)) }:WorkerWorker) true) fun a1 =>
  some (({ p0 with pop:=(DequePop.mk ({ p0.pop.part with x:=a0,done:=a1.pop.part.done,got:=a1.pop.part.got }:DequePart)) }:WorkerWorker),b1))
  else
  some (({ p0 with pop:=(DequePop.mk ({ p0.pop.part with x:=a0 }:DequePart)) }:WorkerWorker),b1)
def Z89 (x0:List Int)(a0 a1 a2:Int):Option (Bool×List Int) :=
  some ((decide ((x0.getD a0.toNat 0)=a1)),(x0.set a0.toNat (if (x0.getD a0.toNat 0)=a1 then a2 else (x0.getD a0.toNat 0))))
def Z16 (b0:CellsBank)(i1 a0 v3:Int):Option (Bool×CellsBank) :=
  if inb i1 b0.l.length then
  (Option.bind (Lc b0 i1) fun _ =>
  Option.bind (Z89 b0.l i1 a0 v3) fun (r5,r6) =>
  some (r5,(CellsBank.mk r6)))
  else
  Option.bind (Z2q b0 i1) fun _ =>
  some (false,b0)
def Z7s (p0:WorkerWorker)(b1:CellsBank):Option (WorkerWorker×CellsBank) :=
  Option.bind (Z3v p0) fun r4 =>
  gd (i64ok (p0.pop.part.t+1)) <|
  Option.bind (Z16 b1 r4 p0.pop.part.t (p0.pop.part.t+1)) fun (r7,r8) =>
  some (({ p0 with pop:=(DequePop.mk ({ p0.pop.part with got:=r7 }:DequePart)) }:WorkerWorker),r8)
def Lw (p0:WorkerWorker)(b1:CellsBank):Option (Bool×WorkerWorker×CellsBank) :=
  Option.bind (Rr p0) fun (r4,r5) =>
  if 0≤r4 then
  (if r4=0 then
  (Option.bind (Zb9 ({ p0 with pop:=(DequePop.mk ({ p0.pop.part with at_:=r5.pop.part.at_ }:DequePart)) }:WorkerWorker) b1) fun a2 =>
  some (p0.pop.part.done,({ p0 with pop:=(DequePop.mk ({ p0.pop.part with at_:=r5.pop.part.at_,b:=a2.pop.part.b }:DequePart)) }:WorkerWorker),b1))
  else
  if r4=1 then
  (Option.bind (Zb0 ({ p0 with pop:=(DequePop.mk ({ p0.pop.part with at_:=r5.pop.part.at_ }:DequePart)) }:WorkerWorker) b1) fun a3 =>
  some (p0.pop.part.done,({ p0 with pop:=(DequePop.mk ({ p0.pop.part with at_:=r5.pop.part.at_ }:DequePart)) }:WorkerWorker),a3))
  else
  if r4=2 then
  (Option.bind (Zad ({ p0 with pop:=(DequePop.mk ({ p0.pop.part with at_:=r5.pop.part.at_ }:DequePart)) }:WorkerWorker) b1) fun a4 =>
  some (p0.pop.part.done,({ p0 with pop:=(DequePop.mk ({ p0.pop.part with at_:=r5.pop.part.at_,t:=a4.pop.part.t }:DequePart)) }:WorkerWorker),b1))
  else
  if r4=3 then
  (Option.bind (Z94 ({ p0 with pop:=(DequePop.mk ({ p0.pop.part with at_:=r5.pop.part.at_ }:DequePart)) }:WorkerWorker) b1) fun (a0,a5) =>
  some (a0.pop.part.done,({ p0 with pop:=(DequePop.mk ({ p0.pop.part with at_:=r5.pop.part.at_,x:=a0.pop.part.x,done:=a0.pop.part.done,got:=a0.pop.part.got }:DequePart)) }:WorkerWorker),a5))
  else
  if r4=4 then
  (Option.bind (Z7s ({ p0 with pop:=(DequePop.mk ({ p0.pop.part with at_:=r5.pop.part.at_ }:DequePart)) }:WorkerWorker) b1) fun (a6,a7) =>
  some (p0.pop.part.done,({ p0 with pop:=(DequePop.mk ({ p0.pop.part with at_:=r5.pop.part.at_,got:=a6.pop.part.got }:DequePart)) }:WorkerWorker),a7))
  else
  if r4=5 then
  (Option.bind (Z2j ({ p0 with pop:=(DequePop.mk ({ p0.pop.part with at_:=r5.pop.part.at_ }:DequePart)) }:WorkerWorker) b1) fun (a1,a8) =>
  some (a1.pop.part.done,({ p0 with pop:=(DequePop.mk ({ p0.pop.part with at_:=r5.pop.part.at_,done:=a1.pop.part.done }:DequePart)) }:WorkerWorker),a8))
  else
  none)
  else
  some (p0.pop.part.done,({ p0 with pop:=(DequePop.mk ({ p0.pop.part with at_:=r5.pop.part.at_ }:DequePart)) }:WorkerWorker),b1)
def Z0q (p0:WorkerWorker)(x2:Bool):Option (Int×Bool) :=
  if x2=true then
  (some (0,false))
  else
  some (p0.pop.part.x,true)
def Z2f (p0:WorkerWorker):Option (Int×Bool) :=
  if (!p0.pop.part.done)=true then
  (Z0q p0 true)
  else
  Z0q p0 (!p0.pop.part.got)
def Z2d (p0:WorkerWorker):Option (Int×Bool) :=
  Option.bind (Z2f p0) fun (r1,r2) =>
  some (r1,r2)
def Z1q (w0:WorkerWorker)(v1:Int):Option (WorkerWorker) :=
  some ({ w0 with at_:=4,u:=v1,holds:=true }:WorkerWorker)
def Z7o (l0:Layout)(w1:Int):Option (DequeSteal) :=
  some (DequeSteal.mk (DequePart.mk l0 w1 0 0 0 0 false false) false)
def Z01 (w0:WorkerWorker)(k1:Int):Option (WorkerWorker) :=
  if w0.l.Workers≤k1 then
  (some ({ w0 with at_:=2,from_:=k1 }:WorkerWorker))
  else
  gd (i64ok (w0.id+k1)) <|
  gd (w0.l.Workers≠0) <|
  Option.bind (Z7o w0.l ((w0.id+k1).tmod w0.l.Workers)) fun r5 =>
  some ({ w0 with at_:=1,steal:=r5,from_:=k1 }:WorkerWorker)
def Rt (w0:WorkerWorker)(b1:CellsBank):Option (WorkerWorker×CellsBank) :=
  Option.bind (Lw w0 b1) fun (r4,r5,r6) =>
  if (!r4)=true then
  (some (({ w0 with pop:=(DequePop.mk ({ r5.pop.part with l:=w0.pop.part.l,w:=w0.pop.part.w }:DequePart)) }:WorkerWorker),r6))
  else
  Option.bind (Z2d ({ w0 with pop:=(DequePop.mk ({ r5.pop.part with l:=w0.pop.part.l,w:=w0.pop.part.w }:DequePart)) }:WorkerWorker)) fun (a2,a3) =>
  if a3=true then
  (Option.bind (Z1q ({ w0 with pop:=(DequePop.mk ({ r5.pop.part with l:=w0.pop.part.l,w:=w0.pop.part.w }:DequePart)) }:WorkerWorker) a2) fun a0 =>
  some (({ w0 with at_:=a0.at_,pop:=(DequePop.mk ({ r5.pop.part with l:=w0.pop.part.l,w:=w0.pop.part.w }:DequePart)),u:=a0.u,holds:=a0.holds }:WorkerWorker),r6))
  else
  Option.bind (Z01 ({ w0 with pop:=(DequePop.mk ({ r5.pop.part with l:=w0.pop.part.l,w:=w0.pop.part.w }:DequePart)) }:WorkerWorker) 1) fun a1 =>
  some (({ w0 with at_:=a1.at_,pop:=(DequePop.mk ({ r5.pop.part with l:=w0.pop.part.l,w:=w0.pop.part.w }:DequePart)),steal:=a1.steal,from_:=a1.from_ }:WorkerWorker),r6)
def Z17 (p0:WorkerWorker):Option (Int×WorkerWorker) :=
  if p0.steal.part.done=true then
  (some ((-1),p0))
  else
  gd (i64ok (p0.steal.part.at_+1)) <|
  gd (i64ok ((p0.steal.part.at_+1)-1)) <|
  some (((p0.steal.part.at_+1)-1),({ p0 with steal:=(DequeSteal.mk ({ p0.steal.part with at_:=(p0.steal.part.at_+1) }:DequePart) p0.steal.lost) }:WorkerWorker))
def Z22 (p0:WorkerWorker):Option (Int) :=
  Option.bind (Jk p0.steal.part.l p0.steal.part.w) fun r1 =>
  some r1
def Za5 (p0:WorkerWorker)(b1:CellsBank):Option (WorkerWorker) :=
  Option.bind (Z22 p0) fun r2 =>
  Option.bind (Vl b1 r2) fun r4 =>
  some ({ p0 with steal:=(DequeSteal.mk ({ p0.steal.part with t:=r4 }:DequePart) p0.steal.lost) }:WorkerWorker)
def Zag (s0:WorkerWorker)(b1:CellsBank):Option (WorkerWorker) :=
  Option.bind (Za5 s0 b1) fun r2 =>
  some ({ s0 with steal:=(DequeSteal.mk ({ s0.steal.part with t:=r2.steal.part.t }:DequePart) s0.steal.lost) }:WorkerWorker)
def Z9e (p0:WorkerWorker):Option (Int) :=
  Option.bind (Kl p0.steal.part.l p0.steal.part.w) fun r1 =>
  some r1
def Zb5 (p0:WorkerWorker)(b1:CellsBank):Option (WorkerWorker) :=
  Option.bind (Z9e p0) fun r2 =>
  Option.bind (Vl b1 r2) fun r4 =>
  some ({ p0 with steal:=(DequeSteal.mk ({ p0.steal.part with b:=r4 }:DequePart) p0.steal.lost) }:WorkerWorker)
def Z2v (p0:WorkerWorker)(a0:Bool):Option (WorkerWorker) :=
  some ({ p0 with steal:=(DequeSteal.mk ({ p0.steal.part with done:=true,got:=a0 }:DequePart) p0.steal.lost) }:WorkerWorker)
def Zba (s0:WorkerWorker)(b1:CellsBank):Option (WorkerWorker) :=
  Option.bind (Zb5 s0 b1) fun r2 =>
  if r2.steal.part.b≤s0.steal.part.t then
  (Option.bind (Z2v ({ s0 with steal:=(DequeSteal.mk ({ s0.steal.part with b:=r2.steal.part.b }:DequePart) s0.steal.lost) }:WorkerWorker) false) fun r5 =>
  some ({ s0 with steal:=(DequeSteal.mk ({ s0.steal.part with b:=r2.steal.part.b,done:=r5.steal.part.done,got:=r5.steal.part.got }:DequePart) s0.steal.lost) }:WorkerWorker))
  else
  some ({ s0 with steal:=(DequeSteal.mk ({ s0.steal.part with b:=r2.steal.part.b }:DequePart) s0.steal.lost) }:WorkerWorker)
def Zai (p0:WorkerWorker)(a0:Int):Option (Int) :=
  Option.bind (Gk p0.steal.part.l p0.steal.part.w a0) fun r1 =>
  some r1
def Z78 (s0:WorkerWorker)(b1:CellsBank):Option (WorkerWorker) :=
  Option.bind (Zai s0 s0.steal.part.t) fun r2 =>
  Option.bind (Vl b1 r2) fun r4 =>
  some ({ s0 with steal:=(DequeSteal.mk ({ s0.steal.part with x:=r4 }:DequePart) s0.steal.lost) }:WorkerWorker)
def Z9t (s0:WorkerWorker)(b1:CellsBank):Option (WorkerWorker×CellsBank) :=
  Option.bind (Z22 s0) fun r4 =>
  gd (i64ok (s0.steal.part.t+1)) <|
  Option.bind (Z16 b1 r4 s0.steal.part.t (s0.steal.part.t+1)) fun (r7,r8) =>
  Option.bind (Z2v s0 r7) fun a0 =>
  some (({ s0 with steal:=(DequeSteal.mk ({ s0.steal.part with done:=a0.steal.part.done,got:=a0.steal.part.got }:DequePart) (!a0.steal.part.got)) }:WorkerWorker),r8)
def Z12 (s0:WorkerWorker)(b1:CellsBank):Option (Bool×WorkerWorker×CellsBank) :=
  Option.bind (Z17 s0) fun (r4,r5) =>
  if 0≤r4 then
  (if r4=0 then
  (Option.bind (Zag ({ s0 with steal:=(DequeSteal.mk ({ s0.steal.part with at_:=r5.steal.part.at_ }:DequePart) s0.steal.lost) }:WorkerWorker) b1) fun a2 =>
  some (s0.steal.part.done,({ s0 with steal:=(DequeSteal.mk ({ s0.steal.part with at_:=r5.steal.part.at_,t:=a2.steal.part.t }:DequePart) s0.steal.lost) }:WorkerWorker),b1))
  else
  if r4=1 then
  (Option.bind (Zba ({ s0 with steal:=(DequeSteal.mk ({ s0.steal.part with at_:=r5.steal.part.at_ }:DequePart) s0.steal.lost) }:WorkerWorker) b1) fun a0 =>
  some (a0.steal.part.done,({ s0 with steal:=(DequeSteal.mk ({ s0.steal.part with at_:=r5.steal.part.at_,b:=a0.steal.part.b,done:=a0.steal.part.done,got:=a0.steal.part.got }:DequePart) s0.steal.lost) }:WorkerWorker),b1))
  else
  if r4=2 then
  (Option.bind (Z78 ({ s0 with steal:=(DequeSteal.mk ({ s0.steal.part with at_:=r5.steal.part.at_ }:DequePart) s0.steal.lost) }:WorkerWorker) b1) fun a3 =>
  some (s0.steal.part.done,({ s0 with steal:=(DequeSteal.mk ({ s0.steal.part with at_:=r5.steal.part.at_,x:=a3.steal.part.x }:DequePart) s0.steal.lost) }:WorkerWorker),b1))
  else
  if r4=3 then
  (Option.bind (Z9t ({ s0 with steal:=(DequeSteal.mk ({ s0.steal.part with at_:=r5.steal.part.at_ }:DequePart) s0.steal.lost) }:WorkerWorker) b1) fun (a1,a4) =>
  some (a1.steal.part.done,({ s0 with steal:=(DequeSteal.mk ({ s0.steal.part with at_:=r5.steal.part.at_,done:=a1.steal.part.done,got:=a1.steal.part.got }:DequePart) a1.steal.lost) }:WorkerWorker),a4))
  else
  none)
  else
  some (s0.steal.part.done,({ s0 with steal:=(DequeSteal.mk ({ s0.steal.part with at_:=r5.steal.part.at_ }:DequePart) s0.steal.lost) }:WorkerWorker),b1)
def Z11 (p0:WorkerWorker)(x2:Bool):Option (Int×Bool) :=
  if x2=true then
  (some (0,false))
  else
  some (p0.steal.part.x,true)
def Z1v (p0:WorkerWorker):Option (Int×Bool) :=
  if (!p0.steal.part.done)=true then
  (Z11 p0 true)
  else
  Z11 p0 (!p0.steal.part.got)
def Z2r (s0:WorkerWorker):Option (Int×Bool) :=
  Option.bind (Z1v s0) fun (r1,r2) =>
  some (r1,r2)
def Z1p (w0:WorkerWorker)(b1:CellsBank):Option (WorkerWorker×CellsBank) :=
  Option.bind (Z12 w0 b1) fun (r4,r5,r6) =>
  if (!r4)=true then
  (some (({ w0 with steal:=(DequeSteal.mk ({ r5.steal.part with l:=w0.steal.part.l,w:=w0.steal.part.w }:DequePart) r5.steal.lost) }:WorkerWorker),r6))
  else
  Option.bind (Z2r ({ w0 with steal:=(DequeSteal.mk ({ r5.steal.part with l:=w0.steal.part.l,w:=w0.steal.part.w }:DequePart) r5.steal.lost) }:WorkerWorker)) fun (a2,a3) =>
  if a3=true then
  (Option.bind (Z1q ({ w0 with steal:=(DequeSteal.mk ({ r5.steal.part with l:=w0.steal.part.l,w:=w0.steal.part.w }:DequePart) r5.steal.lost) }:WorkerWorker) a2) fun a0 =>
  some (({ w0 with at_:=a0.at_,steal:=(DequeSteal.mk ({ r5.steal.part with l:=w0.steal.part.l,w:=w0.steal.part.w }:DequePart) r5.steal.lost),u:=a0.u,holds:=a0.holds }:WorkerWorker),r6))
  else
  gd (i64ok (w0.from_+1)) <|
  Option.bind (Z01 ({ w0 with steal:=(DequeSteal.mk ({ r5.steal.part with l:=w0.steal.part.l,w:=w0.steal.part.w }:DequePart) r5.steal.lost) }:WorkerWorker) (w0.from_+1)) fun a1 =>
  some (({ w0 with at_:=a1.at_,steal:=a1.steal,from_:=a1.from_ }:WorkerWorker),r6)
def Z2a (l0:Layout):Option (Unit) :=
  some ()
def Zb4 (b0:CellsBank)(c1:Layout):Option (Bool) :=
  Option.bind (Vl b0 c1.Ask) fun r1 =>
  some (decide (r1≠0))
def Z6y (a1:CountAsked)(a0:Layout)(b1:CellsBank):Option (Bool×CountAsked) :=
  if (!a1.o.done)=true then
  (Option.bind (Zb4 b1 a0) fun r3 =>
  some (true,(CountAsked.mk (CountOnce.mk true r3))))
  else
  some (true,a1)
def Z1o (a0:CountAsked)(a1:Layout)(b1:CellsBank):Option (Bool×CountAsked) :=
  Option.bind (Z6y a0 a1 b1) fun (r2,r3) =>
  some (r2,r3)
def Z2h (a0:CountAsked)(a1:Layout):Option (Bool) :=
  some a0.o.is
def Z2x (l0:Layout):Option (BarrierArrive) :=
  some (BarrierArrive.mk l0 0 0 false)
def Z0a (w0:WorkerWorker):Option (WorkerWorker) :=
  Option.bind (Z2x w0.l) fun r2 =>
  some ({ w0 with at_:=24,arrive:=r2 }:WorkerWorker)
def Z7z (w0:WorkerWorker)(b1:CellsBank):Option (WorkerWorker) :=
  Option.bind (Z2a w0.l) fun _ =>
  Option.bind (Z1o (CountAsked.mk (CountOnce.mk false false)) w0.l b1) fun (r7,r8) =>
  Option.bind (Z2h r8 w0.l) fun a1 =>
  if a1=true then
  (Option.bind (Z0a w0) fun a0 =>
  some ({ w0 with at_:=a0.at_,arrive:=a0.arrive }:WorkerWorker))
  else
  some ({ w0 with at_:=3 }:WorkerWorker)
def Z8i (l0:Layout):Option (Unit) :=
  some ()
def Z6z (b0:CellsBank)(c1:Layout):Option (Bool) :=
  Option.bind (Vl b0 c1.Pending) fun r1 =>
  some (decide (r1=0))
def Z97 (a1:CountZero)(a0:Layout)(b1:CellsBank):Option (Bool×CountZero) :=
  if (!a1.o.done)=true then
  (Option.bind (Z6z b1 a0) fun r3 =>
  some (true,(CountZero.mk (CountOnce.mk true r3))))
  else
  some (true,a1)
def Z5t (z0:CountZero)(a0:Layout)(b1:CellsBank):Option (Bool×CountZero) :=
  Option.bind (Z97 z0 a0 b1) fun (r2,r3) =>
  some (r2,r3)
def Z9p (z0:CountZero)(a0:Layout):Option (Bool) :=
  some z0.o.is
def Z3i (l0:Layout)(w1:Int):Option (DequePop) :=
  some (DequePop.mk (DequePart.mk l0 w1 0 0 0 0 false false))
def Z0o (w0:WorkerWorker):Option (WorkerWorker) :=
  Option.bind (Z3i w0.l w0.id) fun r2 =>
  some ({ w0 with at_:=0,pop:=r2 }:WorkerWorker)
def Z95 (w0:WorkerWorker)(b1:CellsBank):Option (WorkerWorker) :=
  Option.bind (Z8i w0.l) fun _ =>
  Option.bind (Z5t (CountZero.mk (CountOnce.mk false false)) w0.l b1) fun (r7,r8) =>
  Option.bind (Z9p r8 w0.l) fun a2 =>
  if a2=true then
  (Option.bind (Z0a w0) fun a0 =>
  some ({ w0 with at_:=a0.at_,arrive:=a0.arrive }:WorkerWorker))
  else
  Option.bind (Z0o w0) fun a1 =>
  some ({ w0 with at_:=a1.at_,pop:=a1.pop }:WorkerWorker)
def Jg (w0:WorkerWorker)(a2:Bool)(a1 a0:Int):Option (WorkerWorker) :=
  if a2=true then
  (some ({ w0 with at_:=a1 }:WorkerWorker))
  else
  some ({ w0 with at_:=a0 }:WorkerWorker)
def Z7v (w0:WorkerWorker)(b1:CellsBank):Option (WorkerWorker) :=
  gd (i64ok (w0.l.H+w0.u)) <|
  Option.bind (Vl b1 (w0.l.H+w0.u)) fun r3 =>
  Option.bind (Jg ({ w0 with h:=r3 }:WorkerWorker) (decide (w0.c.N≤r3)) 18 5) fun r5 =>
  some ({ w0 with at_:=r5.at_,h:=r3 }:WorkerWorker)
def Z1b (w0:WorkerWorker):Option (WorkerWorker) :=
  gd (inb w0.u w0.c.First.length) <|
  gd (i64ok (w0.u+1)) <|
  gd (inb (w0.u+1) w0.c.First.length) <|
  if (w0.c.First.getD w0.u.toNat 0)=(w0.c.First.getD (w0.u+1).toNat 0) then
  (some ({ w0 with at_:=18,a:=(w0.c.First.getD w0.u.toNat 0),target:=(-1) }:WorkerWorker))
  else
  some ({ w0 with at_:=6,a:=(w0.c.First.getD w0.u.toNat 0),target:=(-1) }:WorkerWorker)
def Zaw (w0:WorkerWorker)(b1:CellsBank):Option (WorkerWorker) :=
  gd (i64ok (w0.l.Ex+w0.u)) <|
  Option.bind (Vl b1 (w0.l.Ex+w0.u)) fun r3 =>
  if r3≤0 then
  (some ({ w0 with at_:=18,e:=r3 }:WorkerWorker))
  else
  Option.bind (Z1b ({ w0 with e:=r3 }:WorkerWorker)) fun r6 =>
  some ({ w0 with at_:=r6.at_,e:=r3,a:=r6.a,target:=r6.target }:WorkerWorker)
def Z1z (w0:WorkerWorker):Option (WorkerWorker) :=
  gd (i64ok (w0.a+1)) <|
  gd (i64ok (w0.u+1)) <|
  gd (inb (w0.u+1) w0.c.First.length) <|
  if (w0.a+1)<(w0.c.First.getD (w0.u+1).toNat 0) then
  (some ({ w0 with at_:=6,a:=(w0.a+1) }:WorkerWorker))
  else
  if w0.target<0 then
  (some ({ w0 with at_:=18,a:=(w0.a+1) }:WorkerWorker))
  else
  if w0.low<w0.h then
  (some ({ w0 with at_:=8,a:=(w0.a+1) }:WorkerWorker))
  else
  some ({ w0 with at_:=15,a:=(w0.a+1) }:WorkerWorker)
def Zas (w0:WorkerWorker)(b1:CellsBank):Option (WorkerWorker) :=
  gd (i64ok (w0.l.Res+w0.a)) <|
  Option.bind (Vl b1 (w0.l.Res+w0.a)) fun r3 =>
  if 0<r3 then
  (some ({ w0 with at_:=7,d:=r3 }:WorkerWorker))
  else
  Option.bind (Z1z ({ w0 with d:=r3 }:WorkerWorker)) fun r6 =>
  some ({ w0 with at_:=r6.at_,a:=r6.a,d:=r3 }:WorkerWorker)
def Z0s (w0 w9:WorkerWorker):Option (WorkerWorker) :=
  Option.bind (Z1z ({ w9 with c:=({ w0.c with N:=w9.c.N,S:=w9.c.S,T:=w9.c.T }:Csr) }:WorkerWorker)) fun a0 =>
  some ({ w9 with c:=({ w0.c with N:=w9.c.N,S:=w9.c.S,T:=w9.c.T }:Csr),at_:=a0.at_,a:=a0.a }:WorkerWorker)
def Z5s (w0:WorkerWorker)(r4:Int)(x7:Bool):Option (WorkerWorker) :=
  if x7=true then
  (Z0s w0 ({ w0 with target:=w0.a,room:=w0.d,low:=r4 }:WorkerWorker))
  else
  Z0s w0 w0
def Z8a (w0:WorkerWorker)(b1:CellsBank):Option (WorkerWorker) :=
  gd (inb w0.a w0.c.Head.length) <|
  gd (i64ok (w0.l.H+(w0.c.Head.getD w0.a.toNat 0))) <|
  Option.bind (Vl b1 (w0.l.H+(w0.c.Head.getD w0.a.toNat 0))) fun r4 =>
  if w0.target<0 then
  (Z5s w0 r4 true)
  else
  Z5s w0 r4 (decide (r4<w0.low))
def Z8b (x0:List Int)(a1 a0:Int):Option (Int×List Int) :=
  some ((addW .i64 (x0.getD a1.toNat 0) a0),(x0.set a1.toNat (addW .i64 (x0.getD a1.toNat 0) a0)))
def Jr (b0:CellsBank)(i1 d2:Int):Option (Int×CellsBank) :=
  if inb i1 b0.l.length then
  (Option.bind (Lc b0 i1) fun _ =>
  Option.bind (Z8b b0.l i1 d2) fun (r5,r6) =>
  some (r5,(CellsBank.mk r6)))
  else
  Option.bind (Z2q b0 i1) fun _ =>
  some (0,b0)
def Z35 (w0:WorkerWorker)(e1:Evt):Option (WorkerWorker) :=
  some ({ w0 with event:=(Evt.mk w0.id e1.What w0.u e1.Arc e1.D w0.h w0.low),has:=true }:WorkerWorker)
def Z8e (w0:WorkerWorker)(b1:CellsBank):Option (WorkerWorker×CellsBank) :=
  gd (i64ok (w0.l.Res+w0.target)) <|
  Option.bind (Jr b1 (w0.l.Res+w0.target) (Rc .i64 (min w0.e w0.room))) fun (r5,r6) =>
  Option.bind (Z35 ({ w0 with d:=(min w0.e w0.room) }:WorkerWorker) (Evt.mk 0 1 0 w0.target (min w0.e w0.room) 0 0)) fun r9 =>
  some (({ w0 with at_:=9,event:=r9.event,has:=r9.has,d:=(min w0.e w0.room) }:WorkerWorker),r6)
def Zbd (w0:WorkerWorker)(b1:CellsBank):Option (WorkerWorker×CellsBank) :=
  gd (inb w0.target w0.c.Rev.length) <|
  gd (i64ok (w0.l.Res+(w0.c.Rev.getD w0.target.toNat 0))) <|
  Option.bind (Jr b1 (w0.l.Res+(w0.c.Rev.getD w0.target.toNat 0)) w0.d) fun (r6,r7) =>
  some (({ w0 with at_:=10 }:WorkerWorker),r7)
def Z8m (w0:WorkerWorker)(b1:CellsBank):Option (WorkerWorker×CellsBank) :=
  gd (i64ok (w0.l.Ex+w0.u)) <|
  Option.bind (Jr b1 (w0.l.Ex+w0.u) (Rc .i64 w0.d)) fun (r5,r6) =>
  some (({ w0 with at_:=11,e:=r5 }:WorkerWorker),r6)
def Z9u (w0:WorkerWorker)(b1:CellsBank):Option (WorkerWorker×CellsBank) :=
  gd (inb w0.target w0.c.Head.length) <|
  gd (i64ok (w0.l.Ex+(w0.c.Head.getD w0.target.toNat 0))) <|
  Option.bind (Jr b1 (w0.l.Ex+(w0.c.Head.getD w0.target.toNat 0)) w0.d) fun (r6,r7) =>
  if (w0.c.Head.getD w0.target.toNat 0)=w0.c.S then
  (Option.bind (Jg ({ w0 with v:=(w0.c.Head.getD w0.target.toNat 0) }:WorkerWorker) true 17 12) fun a0 =>
  some (({ w0 with at_:=a0.at_,v:=(w0.c.Head.getD w0.target.toNat 0) }:WorkerWorker),r7))
  else
  if (w0.c.Head.getD w0.target.toNat 0)=w0.c.T then
  (Option.bind (Jg ({ w0 with v:=(w0.c.Head.getD w0.target.toNat 0) }:WorkerWorker) true 17 12) fun a1 =>
  some (({ w0 with at_:=a1.at_,v:=(w0.c.Head.getD w0.target.toNat 0) }:WorkerWorker),r7))
  else
  Option.bind (Jg ({ w0 with v:=(w0.c.Head.getD w0.target.toNat 0) }:WorkerWorker) (decide (r6≠w0.d)) 17 12) fun a2 =>
  some (({ w0 with at_:=a2.at_,v:=(w0.c.Head.getD w0.target.toNat 0) }:WorkerWorker),r7)
def Z3r (l0:Layout)(v1:Int):Option (FlagsClaim) :=
  gd (i64ok (l0.Flag+v1)) <|
  some (FlagsClaim.mk (FlagsOnce.mk (l0.Flag+v1) false) false)
def Z9m (a0:FlagsClaim):Option (Bool×FlagsClaim) :=
  some ((!a0.once.done),(FlagsClaim.mk (FlagsOnce.mk a0.once.cell true) a0.got))
def Z23 (c0:FlagsClaim)(b1:CellsBank):Option (Bool×FlagsClaim×CellsBank) :=
  Option.bind (Z9m c0) fun (r4,r5) =>
  if r4=true then
  (Option.bind (Z16 b1 c0.once.cell 0 1) fun (r8,r9) =>
  some (true,(FlagsClaim.mk (FlagsOnce.mk c0.once.cell r5.once.done) r8),r9))
  else
  some (true,(FlagsClaim.mk (FlagsOnce.mk c0.once.cell r5.once.done) c0.got),b1)
def Z24 (c0:FlagsClaim):Option (Bool) :=
  some c0.got
def Z6q (w0:WorkerWorker)(b1:CellsBank):Option (WorkerWorker×CellsBank) :=
  Option.bind (Z3r w0.l w0.v) fun r4 =>
  Option.bind (Z23 r4 b1) fun (r8,r9,a1) =>
  Option.bind (Z24 (FlagsClaim.mk (FlagsOnce.mk r4.once.cell r9.once.done) r9.got)) fun a0 =>
  Option.bind (Jg ({ w0 with wakes:=a0 }:WorkerWorker) a0 13 17) fun a2 =>
  some (({ w0 with at_:=a2.at_,wakes:=a0 }:WorkerWorker),a1)
def Z2t (l0:Layout)(n1:Int):Option (Unit) :=
  some ()
def Z70 (l0:Layout)(n1:Int):Option (Unit) :=
  Option.bind (Z2t l0 n1) fun _ =>
  some ()
def Z21 (b0:CellsBank)(c1:Layout)(c2:Int):Option (Bool×CellsBank) :=
  Option.bind (Jr b0 c1.Pending c2) fun (r3,r4) =>
  some ((decide (r3=0)),r4)
def Z7a (a2:CountUp)(a0:Layout)(a1:Int)(b1:CellsBank):Option (Bool×CountUp×CellsBank) :=
  if (!a2.o.done)=true then
  (Option.bind (Z21 b1 a0 a1) fun (r5,r6) =>
  some (true,(CountUp.mk (CountOnce.mk true r5)),r6))
  else
  some (true,a2,b1)
def Z7t (u0:CountUp)(a1:Layout)(a0:Int)(b1:CellsBank):Option (Bool×CountUp×CellsBank) :=
  Option.bind (Z7a u0 a1 a0 b1) fun (r4,r5,r6) =>
  some (r4,r5,r6)
def Z7d (l0:Layout)(w1 v2:Int):Option (DequePush) :=
  some (DequePush.mk (DequePart.mk l0 w1 0 0 0 0 false false) v2)
def Z8v (w0:WorkerWorker)(b1:CellsBank):Option (WorkerWorker×CellsBank) :=
  Option.bind (Z70 w0.l 1) fun _ =>
  Option.bind (Z7t (CountUp.mk (CountOnce.mk false false)) w0.l 1 b1) fun (a2,a3,a0) =>
  Option.bind (Z7d w0.l w0.id w0.v) fun a1 =>
  some (({ w0 with at_:=14,put:=a1 }:WorkerWorker),a0)
def Z1r (p0:WorkerWorker):Option (Int×WorkerWorker) :=
  if p0.put.part.done=true then
  (some ((-1),p0))
  else
  gd (i64ok (p0.put.part.at_+1)) <|
  gd (i64ok ((p0.put.part.at_+1)-1)) <|
  some (((p0.put.part.at_+1)-1),({ p0 with put:=(DequePush.mk ({ p0.put.part with at_:=(p0.put.part.at_+1) }:DequePart) p0.put.v) }:WorkerWorker))
def Z2i (p0:WorkerWorker):Option (Int) :=
  Option.bind (Kl p0.put.part.l p0.put.part.w) fun r1 =>
  some r1
def Z9q (p0:WorkerWorker)(b1:CellsBank):Option (WorkerWorker) :=
  Option.bind (Z2i p0) fun r2 =>
  Option.bind (Vl b1 r2) fun r4 =>
  some ({ p0 with put:=(DequePush.mk ({ p0.put.part with b:=r4 }:DequePart) p0.put.v) }:WorkerWorker)
def Zb7 (p0:WorkerWorker)(b1:CellsBank):Option (WorkerWorker) :=
  Option.bind (Z9q p0 b1) fun r2 =>
  some ({ p0 with put:=(DequePush.mk ({ p0.put.part with b:=r2.put.part.b }:DequePart) p0.put.v) }:WorkerWorker)
def Z8g (p0:WorkerWorker):Option (Int) :=
  Option.bind (Jk p0.put.part.l p0.put.part.w) fun r1 =>
  some r1
def Z9n (p0:WorkerWorker)(b1:CellsBank):Option (WorkerWorker) :=
  Option.bind (Z8g p0) fun r2 =>
  Option.bind (Vl b1 r2) fun r4 =>
  some ({ p0 with put:=(DequePush.mk ({ p0.put.part with t:=r4 }:DequePart) p0.put.v) }:WorkerWorker)
def Z2l (p0:WorkerWorker)(a0:Bool):Option (WorkerWorker) :=
  some ({ p0 with put:=(DequePush.mk ({ p0.put.part with done:=true,got:=a0 }:DequePart) p0.put.v) }:WorkerWorker)
def Zb8 (p0:WorkerWorker)(b1:CellsBank):Option (WorkerWorker) :=
  Option.bind (Z9n p0 b1) fun r2 =>
  gd (i64ok (p0.put.part.b-r2.put.part.t)) <|
  if p0.put.part.l.Room≤(p0.put.part.b-r2.put.part.t) then
  (Option.bind (Z2l ({ p0 with put:=(DequePush.mk ({ p0.put.part with t:=r2.put.part.t }:DequePart) p0.put.v) }:WorkerWorker) false) fun r6 =>
  some ({ p0 with put:=(DequePush.mk ({ p0.put.part with t:=r2.put.part.t,done:=r6.put.part.done,got:=r6.put.part.got }:DequePart) p0.put.v) }:WorkerWorker))
  else
  some ({ p0 with put:=(DequePush.mk ({ p0.put.part with t:=r2.put.part.t }:DequePart) p0.put.v) }:WorkerWorker)
def Z7r (p0:WorkerWorker)(a0:Int):Option (Int) :=
  Option.bind (Gk p0.put.part.l p0.put.part.w a0) fun r1 =>
  some r1
def Z8o (p0:WorkerWorker)(b1:CellsBank):Option (CellsBank) :=
  Option.bind (Z7r p0 p0.put.part.b) fun r3 =>
  Option.bind (Ka b1 r3 p0.put.v) fun r5 =>
  some r5
def Z8n (p0:WorkerWorker)(b1:CellsBank):Option (WorkerWorker×CellsBank) :=
  Option.bind (Z2i p0) fun r4 =>
  gd (i64ok (p0.put.part.b+1)) <|
  Option.bind (Ka b1 r4 (p0.put.part.b+1)) fun r7 =>
  Option.bind (Z2l p0 true) fun a0 =>
  some (({ p0 with put:=(DequePush.mk ({ p0.put.part with done:=a0.put.part.done,got:=a0.put.part.got }:DequePart) p0.put.v) }:WorkerWorker),r7)
def Z1f (p0:WorkerWorker)(b1:CellsBank):Option (Bool×WorkerWorker×CellsBank) :=
  Option.bind (Z1r p0) fun (r4,r5) =>
  if 0≤r4 then
  (if r4=0 then
  (Option.bind (Zb7 ({ p0 with put:=(DequePush.mk ({ p0.put.part with at_:=r5.put.part.at_ }:DequePart) p0.put.v) }:WorkerWorker) b1) fun a2 =>
  some (p0.put.part.done,({ p0 with put:=(DequePush.mk ({ p0.put.part with at_:=r5.put.part.at_,b:=a2.put.part.b }:DequePart) p0.put.v) }:WorkerWorker),b1))
  else
  if r4=1 then
  (Option.bind (Zb8 ({ p0 with put:=(DequePush.mk ({ p0.put.part with at_:=r5.put.part.at_ }:DequePart) p0.put.v) }:WorkerWorker) b1) fun a0 =>
  some (a0.put.part.done,({ p0 with put:=(DequePush.mk ({ p0.put.part with at_:=r5.put.part.at_,t:=a0.put.part.t,done:=a0.put.part.done,got:=a0.put.part.got }:DequePart) p0.put.v) }:WorkerWorker),b1))
  else
  if r4=2 then
  (Option.bind (Z8o ({ p0 with put:=(DequePush.mk ({ p0.put.part with at_:=r5.put.part.at_ }:DequePart) p0.put.v) }:WorkerWorker) b1) fun a3 =>
  some (p0.put.part.done,({ p0 with put:=(DequePush.mk ({ p0.put.part with at_:=r5.put.part.at_ }:DequePart) p0.put.v) }:WorkerWorker),a3))
  else
  if r4=3 then
  (Option.bind (Z8n ({ p0 with put:=(DequePush.mk ({ p0.put.part with at_:=r5.put.part.at_ }:DequePart) p0.put.v) }:WorkerWorker) b1) fun (a1,a4) =>
  some (a1.put.part.done,({ p0 with put:=(DequePush.mk ({ p0.put.part with at_:=r5.put.part.at_,done:=a1.put.part.done,got:=a1.put.part.got }:DequePart) p0.put.v) }:WorkerWorker),a4))
  else
  none)
  else
  some (p0.put.part.done,({ p0 with put:=(DequePush.mk ({ p0.put.part with at_:=r5.put.part.at_ }:DequePart) p0.put.v) }:WorkerWorker),b1)
def Z0t (w0:WorkerWorker)(b1:CellsBank):Option (WorkerWorker×CellsBank) :=
  Option.bind (Z1f w0 b1) fun (r4,r5,r6) =>
  if r4=true then
  (some (({ w0 with at_:=17,put:=(DequePush.mk ({ r5.put.part with l:=w0.put.part.l,w:=w0.put.part.w,x:=w0.put.part.x }:DequePart) w0.put.v),wakes:=false }:WorkerWorker),r6))
  else
  some (({ w0 with put:=(DequePush.mk ({ r5.put.part with l:=w0.put.part.l,w:=w0.put.part.w,x:=w0.put.part.x }:DequePart) w0.put.v) }:WorkerWorker),r6)
def Z6r (w0:WorkerWorker)(b1:CellsBank):Option (WorkerWorker×CellsBank) :=
  gd (i64ok (w0.low+1)) <|
  gd (i64ok (w0.l.H+w0.u)) <|
  Option.bind (Ka b1 (w0.l.H+w0.u) (min (w0.low+1) w0.c.N)) fun r6 =>
  Option.bind (Z35 ({ w0 with h:=(min (w0.low+1) w0.c.N) }:WorkerWorker) (Evt.mk 0 2 0 0 0 0 0)) fun r9 =>
  gd (i64ok (w0.lifts+1)) <|
  Option.bind (Jg ({ w0 with h:=(min (w0.low+1) w0.c.N),lifts:=(w0.lifts+1),event:=r9.event,has:=r9.has }:WorkerWorker) (decide ((w0.lifts+1)=w0.limit)) 16 17) fun a0 =>
  some (({ w0 with at_:=a0.at_,h:=(min (w0.low+1) w0.c.N),lifts:=(w0.lifts+1),event:=r9.event,has:=r9.has }:WorkerWorker),r6)
def Z8f (l0:Layout):Option (Unit) :=
  some ()
def Zb6 (b0:CellsBank)(c1:Layout):Option (Bool×CellsBank) :=
  Option.bind (Ka b0 c1.Ask 1) fun r3 =>
  some (false,r3)
def Z74 (a1:CountAsk)(a0:Layout)(b1:CellsBank):Option (Bool×CountAsk×CellsBank) :=
  if (!a1.o.done)=true then
  (Option.bind (Zb6 b1 a0) fun (r5,r6) =>
  some (true,(CountAsk.mk (CountOnce.mk true r5)),r6))
  else
  some (true,a1,b1)
def Z8z (a0:CountAsk)(a1:Layout)(b1:CellsBank):Option (Bool×CountAsk×CellsBank) :=
  Option.bind (Z74 a0 a1 b1) fun (r4,r5,r6) =>
  some (r4,r5,r6)
def Zbc (w0:WorkerWorker)(b1:CellsBank):Option (WorkerWorker×CellsBank) :=
  Option.bind (Z8f w0.l) fun _ =>
  Option.bind (Z8z (CountAsk.mk (CountOnce.mk false false)) w0.l b1) fun (r9,a1,a0) =>
  some (({ w0 with at_:=17 }:WorkerWorker),a0)
def Z66 (w0:WorkerWorker)(a1:Bool):Option (WorkerWorker) :=
  if a1=true then
  (some ({ w0 with at_:=18 }:WorkerWorker))
  else
  Option.bind (Z1b w0) fun a0 =>
  some ({ w0 with at_:=a0.at_,a:=a0.a,target:=a0.target }:WorkerWorker)
def Z82 (w0:WorkerWorker)(b1:CellsBank):Option (WorkerWorker) :=
  Option.bind (Z2a w0.l) fun _ =>
  Option.bind (Z1o (CountAsked.mk (CountOnce.mk false false)) w0.l b1) fun (r7,r8) =>
  Option.bind (Z2h r8 w0.l) fun a0 =>
  if a0=true then
  (some ({ w0 with at_:=22 }:WorkerWorker))
  else
  if w0.c.N≤w0.h then
  (Z66 w0 true)
  else
  Z66 w0 (decide (w0.e=0))
def Z57 (l0:Layout)(v1:Int):Option (FlagsFree) :=
  gd (i64ok (l0.Flag+v1)) <|
  some (FlagsFree.mk (FlagsOnce.mk (l0.Flag+v1) false))
def Z4w (a0:FlagsFree):Option (Bool×FlagsFree) :=
  some ((!a0.once.done),(FlagsFree.mk (FlagsOnce.mk a0.once.cell true)))
def Z49 (f0:FlagsFree)(b1:CellsBank):Option (Bool×FlagsFree×CellsBank) :=
  Option.bind (Z4w f0) fun (r4,r5) =>
  if r4=true then
  (Option.bind (Ka b1 f0.once.cell 0) fun r8 =>
  some (true,(FlagsFree.mk (FlagsOnce.mk f0.once.cell r5.once.done)),r8))
  else
  some (true,(FlagsFree.mk (FlagsOnce.mk f0.once.cell r5.once.done)),b1)
def Z3a (w0:WorkerWorker)(b1:CellsBank)(a0:Int):Option (WorkerWorker×CellsBank) :=
  Option.bind (Z57 w0.l w0.u) fun r4 =>
  Option.bind (Z49 r4 b1) fun (r8,r9,a1) =>
  some (({ w0 with at_:=a0,holds:=false }:WorkerWorker),a1)
def Za9 (w0:WorkerWorker)(b1:CellsBank):Option (WorkerWorker×CellsBank) :=
  Option.bind (Z3a w0 b1 19) fun (r4,r5) =>
  some (({ w0 with at_:=r4.at_,holds:=r4.holds }:WorkerWorker),r5)
def Z9i (w0:WorkerWorker)(b1:CellsBank):Option (WorkerWorker) :=
  gd (i64ok (w0.l.Ex+w0.u)) <|
  Option.bind (Vl b1 (w0.l.Ex+w0.u)) fun r3 =>
  if 0<r3 then
  (Option.bind (Jg ({ w0 with e:=r3 }:WorkerWorker) (decide (w0.h<w0.c.N)) 20 21) fun r6 =>
  some ({ w0 with at_:=r6.at_,e:=r3 }:WorkerWorker))
  else
  Option.bind (Jg ({ w0 with e:=r3 }:WorkerWorker) false 20 21) fun r8 =>
  some ({ w0 with at_:=r8.at_,e:=r3 }:WorkerWorker)
def Z71 (w0:WorkerWorker)(b1:CellsBank):Option (WorkerWorker×CellsBank) :=
  Option.bind (Z3r w0.l w0.u) fun r4 =>
  Option.bind (Z23 r4 b1) fun (r8,r9,a2) =>
  Option.bind (Z24 (FlagsClaim.mk (FlagsOnce.mk r4.once.cell r9.once.done) r9.got)) fun a0 =>
  if a0=true then
  (Option.bind (Z1b ({ w0 with holds:=a0 }:WorkerWorker)) fun a1 =>
  some (({ w0 with at_:=a1.at_,holds:=a0,a:=a1.a,target:=a1.target }:WorkerWorker),a2))
  else
  some (({ w0 with at_:=21,holds:=a0 }:WorkerWorker),a2)
def Z8u (l0:Layout):Option (Unit) :=
  Option.bind (Z2t l0 (-1)) fun _ =>
  some ()
def Zav (a2:CountDown)(a0:Layout)(a1:Int)(b1:CellsBank):Option (Bool×CountDown×CellsBank) :=
  if (!a2.o.done)=true then
  (Option.bind (Z21 b1 a0 a1) fun (r5,r6) =>
  some (true,(CountDown.mk (CountOnce.mk true r5)),r6))
  else
  some (true,a2,b1)
def Z9g (d0:CountDown)(a0:Layout)(a1:Int)(b1:CellsBank):Option (Bool×CountDown×CellsBank) :=
  Option.bind (Zav d0 a0 a1 b1) fun (r4,r5,r6) =>
  some (r4,r5,r6)
def Z3k (w0:WorkerWorker)(b1:CellsBank):Option (CellsBank) :=
  Option.bind (Z8u w0.l) fun _ =>
  Option.bind (Z9g (CountDown.mk (CountOnce.mk false false)) w0.l (-1) b1) fun (a1,a2,a0) =>
  some a0
def Zaz (w0:WorkerWorker)(b1:CellsBank):Option (WorkerWorker×CellsBank) :=
  Option.bind (Z3k w0 b1) fun r4 =>
  Option.bind (Z0o w0) fun r7 =>
  some (({ w0 with at_:=r7.at_,pop:=r7.pop }:WorkerWorker),r4)
def Z9z (w0:WorkerWorker)(b1:CellsBank):Option (WorkerWorker×CellsBank) :=
  Option.bind (Z3a w0 b1 23) fun (r4,r5) =>
  some (({ w0 with at_:=r4.at_,holds:=r4.holds }:WorkerWorker),r5)
def Zak (w0:WorkerWorker)(b1:CellsBank):Option (WorkerWorker×CellsBank) :=
  Option.bind (Z3k w0 b1) fun r4 =>
  Option.bind (Z0a w0) fun r7 =>
  some (({ w0 with at_:=r7.at_,arrive:=r7.arrive }:WorkerWorker),r4)
def Z7h (a0:WorkerWorker)(b1:CellsBank):Option (Int×WorkerWorker) :=
  Option.bind (Vl b1 a0.arrive.l.Sense) fun r2 =>
  if r2≠0 then
  (some (1,({ a0 with arrive:=({ a0.arrive with own:=0 }:BarrierArrive) }:WorkerWorker)))
  else
  some (1,({ a0 with arrive:=({ a0.arrive with own:=1 }:BarrierArrive) }:WorkerWorker))
def Zat (a0:WorkerWorker)(b1:CellsBank):Option (Int×WorkerWorker×CellsBank) :=
  Option.bind (Jr b1 a0.arrive.l.Count (-1)) fun (r4,r5) =>
  if r4=0 then
  (some (2,({ a0 with arrive:=({ a0.arrive with last:=(decide (r4=0)) }:BarrierArrive) }:WorkerWorker),r5))
  else
  some (4,({ a0 with arrive:=({ a0.arrive with last:=(decide (r4=0)) }:BarrierArrive) }:WorkerWorker),r5)
def Zam (a0:WorkerWorker)(b1:CellsBank):Option (Int×CellsBank) :=
  Option.bind (Ka b1 a0.arrive.l.Count a0.arrive.l.Workers) fun r3 =>
  some (3,r3)
def Z79 (a0:WorkerWorker)(b1:CellsBank):Option (Int×CellsBank) :=
  Option.bind (Ka b1 a0.arrive.l.Sense a0.arrive.own) fun r3 =>
  some (5,r3)
def Z75 (a0:WorkerWorker)(b1:CellsBank):Option (Int) :=
  Option.bind (Vl b1 a0.arrive.l.Sense) fun r1 =>
  if r1=a0.arrive.own then
  (some 5)
  else
  some 4
def Z9f (a0:WorkerWorker)(b1:CellsBank):Option (Bool×WorkerWorker×CellsBank) :=
  if a0.arrive.next≠5 then
  (if a0.arrive.next=0 then
  (Option.bind (Z7h a0 b1) fun (a1,a6) =>
  some ((decide (a1=5)),({ a0 with arrive:=({ a0.arrive with next:=a1,own:=a6.arrive.own }:BarrierArrive) }:WorkerWorker),b1))
  else
  if a0.arrive.next=1 then
  (Option.bind (Zat a0 b1) fun (a2,a7,a8) =>
  some ((decide (a2=5)),({ a0 with arrive:=({ a0.arrive with next:=a2,last:=a7.arrive.last }:BarrierArrive) }:WorkerWorker),a8))
  else
  if a0.arrive.next=2 then
  (Option.bind (Zam a0 b1) fun (a3,a9) =>
  some ((decide (a3=5)),({ a0 with arrive:=({ a0.arrive with next:=a3 }:BarrierArrive) }:WorkerWorker),a9))
  else
  if a0.arrive.next=3 then
  (Option.bind (Z79 a0 b1) fun (a4,b0) =>
  some ((decide (a4=5)),({ a0 with arrive:=({ a0.arrive with next:=a4 }:BarrierArrive) }:WorkerWorker),b0))
  else
  if a0.arrive.next=4 then
  (Option.bind (Z75 a0 b1) fun a5 =>
  some ((decide (a5=5)),({ a0 with arrive:=({ a0.arrive with next:=a5 }:BarrierArrive) }:WorkerWorker),b1))
  else
  none)
  else
  some ((decide (a0.arrive.next=5)),a0,b1)
def Z8k (w0:WorkerWorker)(b1:CellsBank):Option (WorkerWorker×CellsBank) :=
  Option.bind (Z9f w0 b1) fun (r4,r5,r6) =>
  if r4=true then
  (some (({ w0 with at_:=25,arrive:=({ r5.arrive with l:=w0.arrive.l }:BarrierArrive) }:WorkerWorker),r6))
  else
  some (({ w0 with arrive:=({ r5.arrive with l:=w0.arrive.l }:BarrierArrive) }:WorkerWorker),r6)
def Xf (w0:WorkerWorker)(b1:CellsBank):Option (Bool×WorkerWorker×CellsBank) :=
  Option.bind (Xm w0) fun r4 =>
  if r4=true then
  (some (true,w0,b1))
  else
  if w0.at_=0 then
  (Option.bind (Rt ({ w0 with has:=false }:WorkerWorker) b1) fun (a3,f2) =>
  Option.bind (Xm ({ w0 with at_:=a3.at_,pop:=(DequePop.mk ({ a3.pop.part with l:=w0.pop.part.l,w:=w0.pop.part.w }:DequePart)),steal:=a3.steal,from_:=a3.from_,u:=a3.u,holds:=a3.holds,has:=false }:WorkerWorker)) fun f3 =>
  some (f3,({ w0 with at_:=a3.at_,pop:=(DequePop.mk ({ a3.pop.part with l:=w0.pop.part.l,w:=w0.pop.part.w }:DequePart)),steal:=a3.steal,from_:=a3.from_,u:=a3.u,holds:=a3.holds,has:=false }:WorkerWorker),f2))
  else
  if w0.at_=1 then
  (Option.bind (Z1p ({ w0 with has:=false }:WorkerWorker) b1) fun (a4,f4) =>
  Option.bind (Xm ({ w0 with at_:=a4.at_,steal:=a4.steal,from_:=a4.from_,u:=a4.u,holds:=a4.holds,has:=false }:WorkerWorker)) fun f5 =>
  some (f5,({ w0 with at_:=a4.at_,steal:=a4.steal,from_:=a4.from_,u:=a4.u,holds:=a4.holds,has:=false }:WorkerWorker),f4))
  else
  if w0.at_=2 then
  (Option.bind (Z7z ({ w0 with has:=false }:WorkerWorker) b1) fun c0 =>
  Option.bind (Xm ({ w0 with at_:=c0.at_,arrive:=c0.arrive,has:=false }:WorkerWorker)) fun f6 =>
  some (f6,({ w0 with at_:=c0.at_,arrive:=c0.arrive,has:=false }:WorkerWorker),b1))
  else
  if w0.at_=3 then
  (Option.bind (Z95 ({ w0 with has:=false }:WorkerWorker) b1) fun b7 =>
  Option.bind (Xm ({ w0 with at_:=b7.at_,pop:=b7.pop,arrive:=b7.arrive,has:=false }:WorkerWorker)) fun f7 =>
  some (f7,({ w0 with at_:=b7.at_,pop:=b7.pop,arrive:=b7.arrive,has:=false }:WorkerWorker),b1))
  else
  if w0.at_=4 then
  (Option.bind (Z7v ({ w0 with has:=false }:WorkerWorker) b1) fun c1 =>
  Option.bind (Xm ({ w0 with at_:=c1.at_,h:=c1.h,has:=false }:WorkerWorker)) fun f8 =>
  some (f8,({ w0 with at_:=c1.at_,h:=c1.h,has:=false }:WorkerWorker),b1))
  else
  if w0.at_=5 then
  (Option.bind (Zaw ({ w0 with has:=false }:WorkerWorker) b1) fun b0 =>
  Option.bind (Xm ({ w0 with at_:=b0.at_,e:=b0.e,has:=false,a:=b0.a,target:=b0.target }:WorkerWorker)) fun f9 =>
  some (f9,({ w0 with at_:=b0.at_,e:=b0.e,has:=false,a:=b0.a,target:=b0.target }:WorkerWorker),b1))
  else
  if w0.at_=6 then
  (Option.bind (Zas ({ w0 with has:=false }:WorkerWorker) b1) fun b8 =>
  Option.bind (Xm ({ w0 with at_:=b8.at_,has:=false,a:=b8.a,d:=b8.d }:WorkerWorker)) fun g0 =>
  some (g0,({ w0 with at_:=b8.at_,has:=false,a:=b8.a,d:=b8.d }:WorkerWorker),b1))
  else
  if w0.at_=7 then
  (Option.bind (Z8a ({ w0 with has:=false }:WorkerWorker) b1) fun b5 =>
  Option.bind (Xm ({ b5 with c:=({ w0.c with N:=b5.c.N,S:=b5.c.S,T:=b5.c.T }:Csr) }:WorkerWorker)) fun g1 =>
  some (g1,({ b5 with c:=({ w0.c with N:=b5.c.N,S:=b5.c.S,T:=b5.c.T }:Csr) }:WorkerWorker),b1))
  else
  if w0.at_=8 then
  (Option.bind (Z8e ({ w0 with has:=false }:WorkerWorker) b1) fun (b6,g2) =>
  Option.bind (Xm ({ w0 with at_:=b6.at_,event:=b6.event,has:=b6.has,d:=b6.d }:WorkerWorker)) fun g3 =>
  some (g3,({ w0 with at_:=b6.at_,event:=b6.event,has:=b6.has,d:=b6.d }:WorkerWorker),g2))
  else
  if w0.at_=9 then
  (Option.bind (Zbd ({ w0 with has:=false }:WorkerWorker) b1) fun (f1,g4) =>
  Option.bind (Xm ({ w0 with at_:=f1.at_,has:=false }:WorkerWorker)) fun g5 =>
  some (g5,({ w0 with at_:=f1.at_,has:=false }:WorkerWorker),g4))
  else
  if w0.at_=10 then
  (Option.bind (Z8m ({ w0 with has:=false }:WorkerWorker) b1) fun (c2,g6) =>
  Option.bind (Xm ({ w0 with at_:=c2.at_,e:=c2.e,has:=false }:WorkerWorker)) fun g7 =>
  some (g7,({ w0 with at_:=c2.at_,e:=c2.e,has:=false }:WorkerWorker),g6))
  else
  if w0.at_=11 then
  (Option.bind (Z9u ({ w0 with has:=false }:WorkerWorker) b1) fun (c3,g8) =>
  Option.bind (Xm ({ w0 with at_:=c3.at_,v:=c3.v,has:=false }:WorkerWorker)) fun g9 =>
  some (g9,({ w0 with at_:=c3.at_,v:=c3.v,has:=false }:WorkerWorker),g8))
  else
  if w0.at_=12 then
  (Option.bind (Z6q ({ w0 with has:=false }:WorkerWorker) b1) fun (r92,h0) =>
  Option.bind (Xm ({ w0 with at_:=r92.at_,wakes:=r92.wakes,has:=false }:WorkerWorker)) fun h1 =>
  some (h1,({ w0 with at_:=r92.at_,wakes:=r92.wakes,has:=false }:WorkerWorker),h0))
  else
  if w0.at_=13 then
  (Option.bind (Z8v ({ w0 with has:=false }:WorkerWorker) b1) fun (d0,h2) =>
  Option.bind (Xm ({ w0 with at_:=d0.at_,put:=d0.put,has:=false }:WorkerWorker)) fun d1 =>
  some (d1,({ w0 with at_:=d0.at_,put:=d0.put,has:=false }:WorkerWorker),h2))
  else
  if w0.at_=14 then
  (Option.bind (Z0t ({ w0 with has:=false }:WorkerWorker) b1) fun (a1,d2) =>
  Option.bind (Xm ({ w0 with at_:=a1.at_,put:=(DequePush.mk ({ a1.put.part with l:=w0.put.part.l,w:=w0.put.part.w,x:=w0.put.part.x }:DequePart) w0.put.v),wakes:=a1.wakes,has:=false }:WorkerWorker)) fun d3 =>
  some (d3,({ w0 with at_:=a1.at_,put:=(DequePush.mk ({ a1.put.part with l:=w0.put.part.l,w:=w0.put.part.w,x:=w0.put.part.x }:DequePart) w0.put.v),wakes:=a1.wakes,has:=false }:WorkerWorker),d2))
  else
  if w0.at_=15 then
  (Option.bind (Z6r ({ w0 with has:=false }:WorkerWorker) b1) fun (a0,d4) =>
  Option.bind (Xm ({ w0 with at_:=a0.at_,h:=a0.h,lifts:=a0.lifts,event:=a0.event,has:=a0.has }:WorkerWorker)) fun d5 =>
  some (d5,({ w0 with at_:=a0.at_,h:=a0.h,lifts:=a0.lifts,event:=a0.event,has:=a0.has }:WorkerWorker),d4))
  else
  if w0.at_=16 then
  (Option.bind (Zbc ({ w0 with has:=false }:WorkerWorker) b1) fun (b9,d6) =>
  Option.bind (Xm ({ w0 with at_:=b9.at_,has:=false }:WorkerWorker)) fun d7 =>
  some (d7,({ w0 with at_:=b9.at_,has:=false }:WorkerWorker),d6))
  else
  if w0.at_=17 then
  (Option.bind (Z82 ({ w0 with has:=false }:WorkerWorker) b1) fun a2 =>
  Option.bind (Xm ({ w0 with at_:=a2.at_,has:=false,a:=a2.a,target:=a2.target }:WorkerWorker)) fun d8 =>
  some (d8,({ w0 with at_:=a2.at_,has:=false,a:=a2.a,target:=a2.target }:WorkerWorker),b1))
  else
  if w0.at_=18 then
  (Option.bind (Za9 ({ w0 with has:=false }:WorkerWorker) b1) fun (a5,d9) =>
  Option.bind (Xm ({ w0 with at_:=a5.at_,holds:=a5.holds,has:=false }:WorkerWorker)) fun e0 =>
  some (e0,({ w0 with at_:=a5.at_,holds:=a5.holds,has:=false }:WorkerWorker),d9))
  else
  if w0.at_=19 then
  (Option.bind (Z9i ({ w0 with has:=false }:WorkerWorker) b1) fun a6 =>
  Option.bind (Xm ({ w0 with at_:=a6.at_,e:=a6.e,has:=false }:WorkerWorker)) fun e1 =>
  some (e1,({ w0 with at_:=a6.at_,e:=a6.e,has:=false }:WorkerWorker),b1))
  else
  if w0.at_=20 then
  (Option.bind (Z71 ({ w0 with has:=false }:WorkerWorker) b1) fun (r136,e2) =>
  Option.bind (Xm ({ w0 with at_:=r136.at_,holds:=r136.holds,has:=false,a:=r136.a,target:=r136.target }:WorkerWorker)) fun e3 =>
  some (e3,({ w0 with at_:=r136.at_,holds:=r136.holds,has:=false,a:=r136.a,target:=r136.target }:WorkerWorker),e2))
  else
  if w0.at_=21 then
  (Option.bind (Zaz ({ w0 with has:=false }:WorkerWorker) b1) fun (a7,e4) =>
  Option.bind (Xm ({ w0 with at_:=a7.at_,pop:=a7.pop,has:=false }:WorkerWorker)) fun e5 =>
  some (e5,({ w0 with at_:=a7.at_,pop:=a7.pop,has:=false }:WorkerWorker),e4))
  else
  if w0.at_=22 then
  (Option.bind (Z9z ({ w0 with has:=false }:WorkerWorker) b1) fun (r148,e6) =>
  Option.bind (Xm ({ w0 with at_:=r148.at_,holds:=r148.holds,has:=false }:WorkerWorker)) fun e7 =>
  some (e7,({ w0 with at_:=r148.at_,holds:=r148.holds,has:=false }:WorkerWorker),e6))
  else
  if w0.at_=23 then
  (Option.bind (Zak ({ w0 with has:=false }:WorkerWorker) b1) fun (a8,e8) =>
  Option.bind (Xm ({ w0 with at_:=a8.at_,arrive:=a8.arrive,has:=false }:WorkerWorker)) fun r158 =>
  some (r158,({ w0 with at_:=a8.at_,arrive:=a8.arrive,has:=false }:WorkerWorker),e8))
  else
  if w0.at_=24 then
  (Option.bind (Z8k ({ w0 with has:=false }:WorkerWorker) b1) fun (a9,e9) =>
  Option.bind (Xm ({ w0 with at_:=a9.at_,arrive:=({ a9.arrive with l:=w0.arrive.l }:BarrierArrive),has:=false }:WorkerWorker)) fun f0 =>
  some (f0,({ w0 with at_:=a9.at_,arrive:=({ a9.arrive with l:=w0.arrive.l }:BarrierArrive),has:=false }:WorkerWorker),e9))
  else
  none
def Zaf (w0:WorkerWorker)(x6:Bool):Option (Evt×Bool) :=
  if x6=true then
  (some ((Evt.mk 0 0 0 0 0 0 0),false))
  else
  some (w0.event,true)
def Zcg (w0:WorkerWorker):Option (Evt×Bool) :=
  Option.bind (Wp w0) fun r3 =>
  if r3=true then
  (Zaf w0 true)
  else
  Zaf w0 (!w0.has)
end Go.Acq
namespace Go.Acq
open Go
structure Acequialaw16Phase where
  C:Csr
  L:Layout
  B:CellsBank
  W:List WorkerWorker
  Dealt:List Int
  deriving DecidableEq
instance:Inhabited Acequialaw16Phase:=⟨⟨default,default,default,default,default⟩⟩
def Z52 (a0 n1:Int):Option ((Int)⊕(Int)) :=
  if n1<a0 then
  (gd (i64ok (n1*2)) <|
  some (.inl (n1*2)))
  else
  some (.inr n1)
def Zac (n4:Int):Option (Int) :=
  some n4
def Z39 (a0:Int):Option (Int) :=
  Option.bind (Xz (fun s=>Z52 a0 s) Xo 1) fun p1_0_0=>Zac p1_0_0
def Gg (n0:Int)(c1:Layout):Option (Int×Layout) :=
  gd (i64ok (c1.Size+n0)) <|
  gd (i64ok ((c1.Size+n0)-n0)) <|
  some (((c1.Size+n0)-n0),({ c1 with Size:=(c1.Size+n0) }:Layout))
def Z4x (a1 a2 a0:Int)(b5:Bool):Option (Layout×Int) :=
  if b5=true then
  (some ((Layout.mk 0 0 0 0 0 0 0 0 0 0 0 0 0 0),2))
  else
  Option.bind (Z39 a1) fun a3 =>
  Option.bind (Gg a2 (Layout.mk a1 a2 a0 a3 0 0 0 0 0 0 0 0 0 0)) fun (a4,b6) =>
  Option.bind (Gg a1 (Layout.mk a1 a2 a0 a3 a4 0 0 0 0 0 0 0 0 b6.Size)) fun (a5,b7) =>
  Option.bind (Gg a1 (Layout.mk a1 a2 a0 a3 a4 0 0 0 0 0 0 0 0 b7.Size)) fun (a6,b8) =>
  Option.bind (Gg a1 (Layout.mk a1 a2 a0 a3 a4 0 0 0 0 0 0 0 0 b8.Size)) fun (a7,b9) =>
  Option.bind (Gg 1 (Layout.mk a1 a2 a0 a3 a4 a5 a6 a7 0 0 0 0 0 b9.Size)) fun (a8,c0) =>
  Option.bind (Gg 1 (Layout.mk a1 a2 a0 a3 a4 a5 a6 a7 0 0 0 0 0 c0.Size)) fun (a9,c1) =>
  Option.bind (Gg 1 (Layout.mk a1 a2 a0 a3 a4 a5 a6 a7 0 0 0 0 0 c1.Size)) fun (b0,c2) =>
  Option.bind (Gg 1 (Layout.mk a1 a2 a0 a3 a4 a5 a6 a7 0 0 0 0 0 c2.Size)) fun (b1,c3) =>
  gd (i64ok (a3+2)) <|
  gd (i64ok (a0*(a3+2))) <|
  Option.bind (Gg (a0*(a3+2)) (Layout.mk a1 a2 a0 a3 a4 a5 a6 a7 a8 a9 b0 b1 0 c3.Size)) fun (d0,d1) =>
  some ((Layout.mk a1 a2 a0 a3 a4 a5 a6 a7 a8 a9 b0 b1 d0 d1.Size),0)
def Z4c (a1 a2 a0:Int)(a3:Bool):Option (Layout×Int) :=
  if a3=true then
  (Z4x a1 a2 a0 true)
  else
  Z4x a1 a2 a0 (decide (64<a0))
def Z60 (a1 a2 a0:Int)(b8:Bool):Option (Layout×Int) :=
  if b8=true then
  (Z4c a1 a2 a0 true)
  else
  Z4c a1 a2 a0 (decide (a0<1))
def Z3x (a1 a2 a0:Int)(b6:Bool):Option (Layout×Int) :=
  if b6=true then
  (Z60 a1 a2 a0 true)
  else
  Z60 a1 a2 a0 (decide (32768<a2))
def Z4p (a1 a2 a0:Int)(b4:Bool):Option (Layout×Int) :=
  if b4=true then
  (Z3x a1 a2 a0 true)
  else
  Z3x a1 a2 a0 (decide (a2<0))
def Z5e (a0 a2 a1:Int):Option (Layout×Int) :=
  if a0<0 then
  (Z4p a0 a2 a1 true)
  else
  Z4p a0 a2 a1 (decide (4096<a0))
def Z69 (n0:Int)(x2:Bool):Option (CellsBank×Int) :=
  if x2=true then
  (none)
  else
  gd (mkok n0) <|
  some ((CellsBank.mk (List.replicate n0.toNat (0:Int))),0)
def Z5q (n0:Int):Option (CellsBank×Int) :=
  if n0<0 then
  (Z69 n0 true)
  else
  Z69 n0 (decide (524288<n0))
def Z5b (c0:Csr)(l1:Layout)(a1 a0:Int)(a3:Bool):Option (WorkerWorker×Int) :=
  if a3=true then
  (none)
  else
  Option.bind (Z0o (WorkerWorker.mk c0 l1 a1 a0 0 (DequePop.mk (DequePart.mk (Layout.mk 0 0 0 0 0 0 0 0 0 0 0 0 0 0) 0 0 0 0 0 false false)) (DequeSteal.mk (DequePart.mk (Layout.mk 0 0 0 0 0 0 0 0 0 0 0 0 0 0) 0 0 0 0 0 false false) false) (DequePush.mk (DequePart.mk (Layout.mk 0 0 0 0 0 0 0 0 0 0 0 0 0 0) 0 0 0 0 0 false false) 0) (BarrierArrive.mk (Layout.mk 0 0 0 0 0 0 0 0 0 0 0 0 0 0) 0 0 false) 0 0 0 0 0 false false 0 (Evt.mk 0 0 0 0 0 0 0) false 0 0 0 0 0)) fun a2 =>
  some ((WorkerWorker.mk c0 l1 a1 a0 a2.at_ a2.pop (DequeSteal.mk (DequePart.mk (Layout.mk 0 0 0 0 0 0 0 0 0 0 0 0 0 0) 0 0 0 0 0 false false) false) (DequePush.mk (DequePart.mk (Layout.mk 0 0 0 0 0 0 0 0 0 0 0 0 0 0) 0 0 0 0 0 false false) 0) (BarrierArrive.mk (Layout.mk 0 0 0 0 0 0 0 0 0 0 0 0 0 0) 0 0 false) 0 0 0 0 0 false false 0 (Evt.mk 0 0 0 0 0 0 0) false 0 0 0 0 0),0)
def Z5k (c0:Csr)(l1:Layout)(a1 a0:Int)(a2:Bool):Option (WorkerWorker×Int) :=
  if a2=true then
  (Z5b c0 l1 a1 a0 true)
  else
  Z5b c0 l1 a1 a0 (decide (a0<1))
def Z6h (c0:Csr)(l1:Layout)(a1 a0:Int)(b8:Bool):Option (WorkerWorker×Int) :=
  if b8=true then
  (Z5k c0 l1 a1 a0 true)
  else
  Z5k c0 l1 a1 a0 (decide (l1.Workers≤a1))
def Z6j (c0:Csr)(l1:Layout)(a1 a0:Int)(b6:Bool):Option (WorkerWorker×Int) :=
  if b6=true then
  (Z6h c0 l1 a1 a0 true)
  else
  Z6h c0 l1 a1 a0 (decide (a1<0))
def Z4y (c0:Csr)(l1:Layout)(a1 a0:Int):Option (WorkerWorker×Int) :=
  if l1.Verts≠c0.N then
  (Z6j c0 l1 a1 a0 true)
  else
  Z6j c0 l1 a1 a0 (decide (l1.Arcs≠(c0.Head.length:Int)))
def Z27 (r5:Csr)(a3:Layout)(a1:List Int)(a0:Int):Option ((List Int×Int)⊕(List Int)) :=
  if a0<(r5.Cap.length:Int) then
  (gd (inb a0 r5.Cap.length) <|
  gd (i64ok (a3.Res+a0)) <|
  Option.bind (Jr (CellsBank.mk a1) (a3.Res+a0) (r5.Cap.getD a0.toNat 0)) fun (a4,a2) =>
  gd (i64ok (a0+1)) <|
  some (.inl (a2.l,(a0+1))))
  else
  some (.inr a1)
def Z1u (n0:Net)(r5:Csr)(a1:Layout)(a2:List Int)(a0:Int):Option ((List Int×Int)⊕(List Int)) :=
  gd (i64ok (n0.S+1)) <|
  gd (inb (n0.S+1) r5.First.length) <|
  if a0<(r5.First.getD (n0.S+1).toNat 0) then
  (gd (inb a0 r5.Cap.length) <|
  gd (i64ok (a1.Res+a0)) <|
  Option.bind (Ka (CellsBank.mk a2) (a1.Res+a0) 0) fun a3 =>
  gd (inb a0 r5.Rev.length) <|
  gd (i64ok (a1.Res+(r5.Rev.getD a0.toNat 0))) <|
  Option.bind (Jr a3 (a1.Res+(r5.Rev.getD a0.toNat 0)) (r5.Cap.getD a0.toNat 0)) fun (a7,a4) =>
  gd (i64ok (a1.Ex+n0.S)) <|
  Option.bind (Jr a4 (a1.Ex+n0.S) (Rc .i64 (r5.Cap.getD a0.toNat 0))) fun (a8,a5) =>
  gd (inb a0 r5.Head.length) <|
  gd (i64ok (a1.Ex+(r5.Head.getD a0.toNat 0))) <|
  Option.bind (Jr a5 (a1.Ex+(r5.Head.getD a0.toNat 0)) (r5.Cap.getD a0.toNat 0)) fun (a9,a6) =>
  gd (i64ok (a0+1)) <|
  some (.inl (a6.l,(a0+1))))
  else
  some (.inr a2)
def Nh (a1:Int)(a5:Layout)(a3 a0:List Int)(a2:Int)(a6:Bool):Option ((List Int×List Int×Int)⊕(List Int×List Int)) :=
  if a6=true then
  (gd (a1≠0) <|
  Option.bind (Kl a5 ((a0.length:Int).tmod a1)) fun a7 =>
  Option.bind (Vl (CellsBank.mk a3) a7) fun a4 =>
  Option.bind (Gk a5 ((a0.length:Int).tmod a1) a4) fun a8 =>
  Option.bind (Ka (CellsBank.mk a3) a8 a2) fun a9 =>
  Option.bind (Kl a5 ((a0.length:Int).tmod a1)) fun b0 =>
  gd (i64ok (a4+1)) <|
  Option.bind (Ka a9 b0 (a4+1)) fun b1 =>
  gd (i64ok (a5.Flag+a2)) <|
  Option.bind (Ka b1 (a5.Flag+a2) 1) fun b5 =>
  gd (apok (a0++([a2])).length 8) <|
  gd (i64ok (a2+1)) <|
  some (.inl (b5.l,(a0++([a2])),(a2+1))))
  else
  gd (i64ok (a2+1)) <|
  some (.inl (a3,a0,(a2+1)))
def Z38 (n0:Net)(a1:Int)(a4:Layout)(a2 a0:List Int)(a3:Int):Option ((List Int×List Int×Int)⊕(List Int×List Int)) :=
  if a3<n0.N then
  (if a3≠n0.S then
  (if a3≠n0.T then
  (gd (i64ok (a4.Ex+a3)) <|
  Option.bind (Vl (CellsBank.mk a2) (a4.Ex+a3)) fun a5 =>
  Nh a1 a4 a2 a0 a3 (decide (0<a5)))
  else
  Nh a1 a4 a2 a0 a3 false)
  else
  Nh a1 a4 a2 a0 a3 false)
  else
  some (.inr (a2,a0))
def Z3f (a0 a4:Int)(r5:Csr)(a6:Layout)(a2:Int)(a1:List WorkerWorker):Option ((Int×List WorkerWorker)⊕(List WorkerWorker)) :=
  if a2<a0 then
  (Option.bind (Z4y r5 a6 a2 a4) fun (a3,a5) =>
  if a5≠0 then
  (none)
  else
  gd (apok (a1.length+1) 8) <|
  gd (i64ok (a2+1)) <|
  some (.inl ((a2+1),(a1++[({ a3 with c:=({ r5 with N:=a3.c.N,S:=a3.c.S,T:=a3.c.T }:Csr) }:WorkerWorker)]))))
  else
  some (.inr a1)
def Zb2 (r5:Csr)(a3:Layout)(a0:List Int)(a2:CellsBank)(a1:List WorkerWorker):Option (Acequialaw16Phase×Bool) :=
  some ((Acequialaw16Phase.mk r5 a3 a2 a1 a0),true)
def Zap (a0 a2:Int)(r5:Csr)(a4:Layout)(a3 a1:List Int):Option (Acequialaw16Phase×Bool) :=
  Option.bind (Ka (CellsBank.mk a3) a4.Pending (a1.length:Int)) fun a5 =>
  Option.bind (Ka a5 a4.Count a0) fun a6 =>
  Option.bind (Xz (fun s=>Z3f a0 a2 r5 a4 s.1 s.2) Xo (0,([]:List WorkerWorker))) fun p12_0_0=>Zb2 r5 a4 a1 a6 p12_0_0
def Z7p (n0:Net)(a0 a1:Int)(r5:Csr)(a3:Layout)(a2:List Int):Option (Acequialaw16Phase×Bool) :=
  gd (i64ok (a3.H+n0.S)) <|
  Option.bind (Ka (CellsBank.mk a2) (a3.H+n0.S) n0.N) fun a4 =>
  Option.bind (Xz (fun s=>Z38 n0 a0 a3 s.1 s.2.1 s.2.2) Xo (a4.l,[],0)) fun (p9_0_0,p9_0_1)=>Zap a0 a1 r5 a3 p9_0_0 p9_0_1
def Z9v (n0:Net)(a0 a1:Int)(r5:Csr)(a3:Layout)(a2:List Int):Option (Acequialaw16Phase×Bool) :=
  gd (inb n0.S r5.First.length) <|
  Option.bind (Xz (fun s=>Z1u n0 r5 a3 s.1 s.2) Xo (a2,(r5.First.getD n0.S.toNat 0))) fun p7_0_0=>Z7p n0 a0 a1 r5 a3 p7_0_0
def Z5a (n0:Net)(a0 a1:Int)(r5:Csr)(a2:Layout)(a3:CellsBank)(a4:Bool):Option (Acequialaw16Phase×Bool) :=
  if a4=true then
  (none)
  else
  Option.bind (Xz (fun s=>Z27 r5 a2 s.1 s.2) Xo (a3.l,0)) fun p5_0_0=>Z9v n0 a0 a1 r5 a2 p5_0_0
def Z3y (n0:Net)(a0 a1:Int)(r5:Csr)(a2:Layout)(a3:CellsBank)(a4:Bool):Option (Acequialaw16Phase×Bool) :=
  if a4=true then
  (Z5a n0 a0 a1 r5 a2 a3 true)
  else
  Z5a n0 a0 a1 r5 a2 a3 (decide (a2.Workers≠a0))
def Z6c (n0:Net)(a0 a1:Int)(r5:Csr)(a2:Layout)(a3:CellsBank)(a4:Bool):Option (Acequialaw16Phase×Bool) :=
  if a4=true then
  (Z3y n0 a0 a1 r5 a2 a3 true)
  else
  gd (i64ok (n0.N+1)) <|
  Z3y n0 a0 a1 r5 a2 a3 (decide ((r5.First.length:Int)≠(n0.N+1)))
def Z5h (n0:Net)(a0 a1:Int)(r5:Csr)(a2:Layout)(a3:CellsBank)(a4:Int)(a5:Bool):Option (Acequialaw16Phase×Bool) :=
  if a5=true then
  (Z6c n0 a0 a1 r5 a2 a3 true)
  else
  Z6c n0 a0 a1 r5 a2 a3 (decide (a4≠0))
def Z3n (n0:Net)(a0 a1:Int):Option (Acequialaw16Phase×Bool) :=
  Option.bind (Z5z n0) fun (r5,r6) =>
  Option.bind (Z5e r5.N (r5.Head.length:Int) a0) fun (a2,a5) =>
  Option.bind (Z5q a2.Size) fun (a3,a4) =>
  if r6≠0 then
  (Z5h n0 a0 a1 r5 a2 a3 a4 true)
  else
  Z5h n0 a0 a1 r5 a2 a3 a4 (decide (a5≠0))
def Z76 (n0:Net)(a0 a1:Int):Option (Net×Acequialaw16Phase×Bool) :=
  Option.bind (Z4o n0 7 14) fun r7 =>
  gd (i64ok (a0.tmod 5)) <|
  gd (i64ok (1+(a0.tmod 5))) <|
  gd (i64ok (a1.tmod 40)) <|
  gd (i64ok (1+(a1.tmod 40))) <|
  Option.bind (Z3n r7 (1+(a0.tmod 5)) (1+(a1.tmod 40))) fun (a2,a3) =>
  some (r7,a2,a3)
def Z4s (w0:WorkerWorker)(a0:List Int):Option (List Int) :=
  if w0.wakes=true then
  (gd (apok (a0++([w0.v])).length 8) <|
  some (a0++([w0.v])))
  else
  some a0
def Z40 (w0:WorkerWorker):Option (List Int) :=
  Option.bind (Wp w0) fun r1 =>
  if r1=true then
  (some ([]))
  else
  if w0.holds=true then
  (gd (apok ([w0.u]).length 8) <|
  Z4s w0 ([w0.u]))
  else
  Z4s w0 ([])
def Z55 (l0:Layout)(w1:Int)(b2:CellsBank)(a0:List Int)(a1:Int):Option ((List Int×Int)⊕(List Int)) :=
  Option.bind (Kl l0 w1) fun a3 =>
  Option.bind (Vl b2 a3) fun a4 =>
  if a1<a4 then
  (if (a0.length:Int)<l0.Room then
  (Option.bind (Gk l0 w1 a1) fun a5 =>
  Option.bind (Vl b2 a5) fun a2 =>
  gd (apok (a0++([a2])).length 8) <|
  gd (i64ok (a1+1)) <|
  some (.inl ((a0++([a2])),(a1+1))))
  else
  some (.inr a0))
  else
  some (.inr a0)
def Zaq (a0:List Int):Option (List Int) :=
  some a0
def Z44 (l0:Layout)(w1:Int)(b2:CellsBank):Option (List Int) :=
  Option.bind (Jk l0 w1) fun r3 =>
  Option.bind (Vl b2 r3) fun r5 =>
  Option.bind (Xz (fun s=>Z55 l0 w1 b2 s.1 s.2) Xo ([],r5)) fun p1_0_0=>Zaq p1_0_0
def Z13 (c1:Net)(c2:Acequialaw16Phase)(a2 a0:List Int)(a1:Int):Option ((List Int×Int)⊕(Bool⊕(List Int))) :=
  if a1<(a2.length:Int) then
  (gd (inb a1 a2.length) <|
  if (a2.getD a1.toNat 0)<0 then
  (some (.inr (.inl false)))
  else
  if c1.N≤(a2.getD a1.toNat 0) then
  (some (.inr (.inl false)))
  else
  gd (i64ok (c2.L.Flag+(a2.getD a1.toNat 0))) <|
  Option.bind (Vl c2.B (c2.L.Flag+(a2.getD a1.toNat 0))) fun a3 =>
  if a3≠1 then
  (some (.inr (.inl false)))
  else
  gd (inb (a2.getD a1.toNat 0) a0.length) <|
  gd (i64ok ((a0.getD (a2.getD a1.toNat 0).toNat 0)+1)) <|
  gd (inb (a2.getD a1.toNat 0) a0.length) <|
  gd (i64ok (a1+1)) <|
  some (.inl ((a0.set (a2.getD a1.toNat 0).toNat ((a0.getD (a2.getD a1.toNat 0).toNat 0)+1)),(a1+1))))
  else
  some (.inr (.inr a0))
def Z59 (c1:Net)(c2:Acequialaw16Phase)(a2 a0:List Int)(a1:Int):Option ((List Int×Int)⊕(Bool⊕(List Int))) :=
  if a1<(a2.length:Int) then
  (gd (inb a1 a2.length) <|
  if (a2.getD a1.toNat 0)<0 then
  (some (.inr (.inl false)))
  else
  if c1.N≤(a2.getD a1.toNat 0) then
  (some (.inr (.inl false)))
  else
  gd (i64ok (c2.L.Flag+(a2.getD a1.toNat 0))) <|
  Option.bind (Vl c2.B (c2.L.Flag+(a2.getD a1.toNat 0))) fun a3 =>
  if a3≠1 then
  (some (.inr (.inl false)))
  else
  gd (inb (a2.getD a1.toNat 0) a0.length) <|
  gd (i64ok ((a0.getD (a2.getD a1.toNat 0).toNat 0)+1)) <|
  gd (inb (a2.getD a1.toNat 0) a0.length) <|
  gd (i64ok (a1+1)) <|
  some (.inl ((a0.set (a2.getD a1.toNat 0).toNat ((a0.getD (a2.getD a1.toNat 0).toNat 0)+1)),(a1+1))))
  else
  some (.inr (.inr a0))
def Z6t (x6:Int)(a0:List Int):Option ((List Int×Int)⊕(Bool⊕(List Int))) :=
  gd (i64ok (x6+1)) <|
  some (.inl (a0,(x6+1)))
def Z6o (c1:Net)(c2:Acequialaw16Phase)(x6:Int)(a0:List Int):Option ((List Int×Int)⊕(Bool⊕(List Int))) :=
  Option.bind (Z44 c2.L x6 c2.B) fun a1 =>
  Option.bind (Xz (fun s=>Z59 c1 c2 a1 s.1 s.2) Xo (a0,0)) fun o=>match o with | .inl p4_0_0=>(some (.inr (.inl p4_0_0))) | .inr p4_1_0=>(Z6t x6 p4_1_0)
def Z4e (c1:Net)(c2:Acequialaw16Phase)(a0:List Int)(x6:Int):Option ((List Int×Int)⊕(Bool⊕(List Int))) :=
  if x6<(c2.W.length:Int) then
  (gd (inb x6 c2.W.length) <|
  Option.bind (Km c2.W x6) fun y9 =>
  Option.bind (Z40 y9) fun a1 =>
  Option.bind (Xz (fun s=>Z13 c1 c2 a1 s.1 s.2) Xo (a0,0)) fun o=>match o with | .inl p2_0_0=>(some (.inr (.inl p2_0_0))) | .inr p2_1_0=>(Z6o c1 c2 x6 p2_1_0))
  else
  some (.inr (.inr a0))
def Z5l (c1:Net)(a1:List Int)(a0:Int):Option ((Int)⊕(Bool⊕Unit)) :=
  if a0<(a1.length:Int) then
  (gd (inb a0 a1.length) <|
  if 1<(a1.getD a0.toNat 0) then
  (some (.inr (.inl false)))
  else
  if 0<(a1.getD a0.toNat 0) then
  (if a0=c1.S then
  (some (.inr (.inl false)))
  else
  if a0=c1.T then
  (some (.inr (.inl false)))
  else
  gd (i64ok (a0+1)) <|
  some (.inl (a0+1)))
  else
  gd (i64ok (a0+1)) <|
  some (.inl (a0+1)))
  else
  some (.inr (.inr ()))
def Z7q  : Option (Bool) :=
  some true
def Z62 (c1:Net)(a0:List Int):Option (Bool) :=
  Option.bind (Xz (fun s=>Z5l c1 a0 s) Xo 0) fun o=>match o with | .inl p7_0_0=>(some p7_0_0) | .inr ()=>Z7q
def Z5m (k0:Int)(c1:Net)(c2:Acequialaw16Phase):Option (Bool) :=
  gd (mkok c1.N) <|
  Option.bind (Xz (fun s=>Z4e c1 c2 s.1 s.2) Xo ((List.replicate c1.N.toNat (0:Int)),0)) fun o=>match o with | .inl p1_0_0=>(some p1_0_0) | .inr p1_1_0=>(Z62 c1 p1_1_0)
def Z4g (p0:Acequialaw16Phase)(a5:List WorkerWorker)(a6:Int)(a2:WorkerWorker)(a4:Bool)(a3:Int)(a1:List WorkerWorker):Option ((Bool×Int×List WorkerWorker)⊕(Bool×List WorkerWorker)) :=
  if a3<((a5.set a6.toNat ({ a2 with c:=({ p0.C with N:=a2.c.N,S:=a2.c.S,T:=a2.c.T }:Csr) }:WorkerWorker)).length:Int) then
  (gd (inb a3 a1.length) <|
  Option.bind (Km a1 a3) fun a0 =>
  if a4=true then
  (Option.bind (Xm ({ a0 with c:=({ p0.C with N:=a0.c.N,S:=a0.c.S,T:=a0.c.T }:Csr) }:WorkerWorker)) fun a7 =>
  gd (i64ok (a3+1)) <|
  some (.inl (a7,(a3+1),(a1.set a3.toNat ({ a0 with c:=({ p0.C with N:=a0.c.N,S:=a0.c.S,T:=a0.c.T }:Csr) }:WorkerWorker)))))
  else
  gd (i64ok (a3+1)) <|
  some (.inl (false,(a3+1),(a1.set a3.toNat ({ a0 with c:=({ p0.C with N:=a0.c.N,S:=a0.c.S,T:=a0.c.T }:Csr) }:WorkerWorker)))))
  else
  some (.inr (a4,a1))
def Z3b (x7:Int)(a0:List Int)(a1:List WorkerWorker):Option ((List Int×Int×List WorkerWorker)⊕((Bool×CellsBank×List WorkerWorker)⊕(List Int×List WorkerWorker))) :=
  gd (i64ok (x7+1)) <|
  some (.inl (a0,(x7+1),a1))
def Z6a (a2:List Int)(x7:Int)(a0:Bool)(a1:List WorkerWorker):Option ((List Int×Int×List WorkerWorker)⊕((Bool×CellsBank×List WorkerWorker)⊕(List Int×List WorkerWorker))) :=
  if a0=true then
  (some (.inr (.inl (true,(CellsBank.mk a2),a1))))
  else
  Z3b x7 a2 a1
def Z7k (p0:Acequialaw16Phase)(a5:Net)(a1:Acequialaw16Phase)(a8:List Int)(x7:Int)(a6:List WorkerWorker)(a3:Int)(a0:WorkerWorker):Option ((List Int×Int×List WorkerWorker)⊕((Bool×CellsBank×List WorkerWorker)⊕(List Int×List WorkerWorker))) :=
  Option.bind (Km (a6.set a3.toNat ({ a0 with c:=({ p0.C with N:=a0.c.N,S:=a0.c.S,T:=a0.c.T }:Csr) }:WorkerWorker)) a3) fun a4 =>
  gd (inb a3 ((a6.set a3.toNat ({ a0 with c:=({ p0.C with N:=a0.c.N,S:=a0.c.S,T:=a0.c.T }:Csr) }:WorkerWorker)).length)) <|
  Option.bind (Xf ({ a4 with c:=({ p0.C with N:=a4.c.N,S:=a4.c.S,T:=a4.c.T }:Csr) }:WorkerWorker) (CellsBank.mk a8)) fun (b0,a2,a7) =>
  Option.bind (Z5m a3 a5 (Acequialaw16Phase.mk ({ p0.C with N:=a1.C.N,S:=a1.C.S,T:=a1.C.T }:Csr) a1.L a7 ((a6.set a3.toNat ({ a0 with c:=({ p0.C with N:=a0.c.N,S:=a0.c.S,T:=a0.c.T }:Csr) }:WorkerWorker)).set a3.toNat ({ a2 with c:=({ p0.C with N:=a2.c.N,S:=a2.c.S,T:=a2.c.T }:Csr) }:WorkerWorker)) p0.Dealt)) fun a9 =>
  if (!a9)=true then
  (some (.inr (.inl (false,a7,((a6.set a3.toNat ({ a0 with c:=({ p0.C with N:=a0.c.N,S:=a0.c.S,T:=a0.c.T }:Csr) }:WorkerWorker)).set a3.toNat ({ a2 with c:=({ p0.C with N:=a2.c.N,S:=a2.c.S,T:=a2.c.T }:Csr) }:WorkerWorker))))))
  else
  Z3b x7 a7.l ((a6.set a3.toNat ({ a0 with c:=({ p0.C with N:=a0.c.N,S:=a0.c.S,T:=a0.c.T }:Csr) }:WorkerWorker)).set a3.toNat ({ a2 with c:=({ p0.C with N:=a2.c.N,S:=a2.c.S,T:=a2.c.T }:Csr) }:WorkerWorker))
def Z3j (p0:Acequialaw16Phase)(a2:Net)(a1:Acequialaw16Phase)(a5:List Int)(x7:Int)(a3:List WorkerWorker)(a4:Int):Option ((List Int×Int×List WorkerWorker)⊕((Bool×CellsBank×List WorkerWorker)⊕(List Int×List WorkerWorker))) :=
  Option.bind (Km a3 a4) fun a0 =>
  gd (inb a4 a3.length) <|
  Option.bind (Xm ({ a0 with c:=({ p0.C with N:=a0.c.N,S:=a0.c.S,T:=a0.c.T }:Csr) }:WorkerWorker)) fun a6 =>
  if a6=true then
  (Option.bind (Xz (fun s=>Z4g p0 a3 a4 a0 s.1 s.2.1 s.2.2) Xo (true,0,(a3.set a4.toNat ({ a0 with c:=({ p0.C with N:=a0.c.N,S:=a0.c.S,T:=a0.c.T }:Csr) }:WorkerWorker)))) fun (p3_0_0,p3_0_1)=>Z6a a5 x7 p3_0_0 p3_0_1)
  else
  Z7k p0 a2 a1 a5 x7 a3 a4 a0
def Z54 (p0:Acequialaw16Phase)(a0:List Int)(a4:Int)(a2:Net)(a1:Acequialaw16Phase)(a5:List Int)(x7:Int)(a3:List WorkerWorker):Option ((List Int×Int×List WorkerWorker)⊕((Bool×CellsBank×List WorkerWorker)⊕(List Int×List WorkerWorker))) :=
  if x7<a4 then
  (gd ((a3.length:Int)≠0) <|
  if x7<(a0.length:Int) then
  (gd (inb x7 a0.length) <|
  gd (i64ok (a0.getD x7.toNat 0)) <|
  gd ((a3.length:Int)≠0) <|
  Z3j p0 a2 a1 a5 x7 a3 ((a0.getD x7.toNat 0).tmod (a3.length:Int)))
  else
  Z3j p0 a2 a1 a5 x7 a3 (x7.tmod (a3.length:Int)))
  else
  some (.inr (.inr (a5,a3)))
def Z9l (a0:List Int)(a1:List WorkerWorker):Option (Bool×CellsBank×List WorkerWorker) :=
  some (true,(CellsBank.mk a0),a1)
def Z5x (p0:Acequialaw16Phase)(a2:List Int)(a3:Int)(a1:Net)(a0:Acequialaw16Phase):Option (Bool×CellsBank×List WorkerWorker) :=
  Option.bind (Xz (fun s=>Z54 p0 a2 a3 a1 a0 s.1 s.2.1 s.2.2) Xo (p0.B.l,0,p0.W)) fun o=>match o with | .inl (p1_0_0,p1_0_1,p1_0_2)=>(some (p1_0_0,p1_0_1,p1_0_2)) | .inr (p1_1_0,p1_1_1)=>(Z9l p1_1_0 p1_1_1)
def Zce (w0:WorkerWorker):Option (Int) :=
  Option.bind (Wp w0) fun r1 =>
  if r1=true then
  (some 0)
  else
  some w0.lifts
def Zbe (r3:Acequialaw16Phase)(a6:List Int)(a3:Int)(a0:List Evt)(a4:List WorkerWorker):Option ((List Int×Int×List Evt×List WorkerWorker)⊕(List Int×List Evt×List WorkerWorker)) :=
  Option.bind (Km a4 0) fun a5 =>
  if a3<200 then
  (gd (inb 0 a4.length) <|
  Option.bind (Xf ({ a5 with c:=({ r3.C with N:=a5.c.N,S:=a5.c.S,T:=a5.c.T }:Csr) }:WorkerWorker) (CellsBank.mk a6)) fun (a8,a1,a7) =>
  if (!a8)=true then
  (gd (i64ok (a3+1)) <|
  Option.bind (Km (a4.set (0:Int).toNat ({ a1 with c:=({ r3.C with N:=a1.c.N,S:=a1.c.S,T:=a1.c.T }:Csr) }:WorkerWorker)) 0) fun a2 =>
  gd (inb 0 ((a4.set (0:Int).toNat ({ a1 with c:=({ r3.C with N:=a1.c.N,S:=a1.c.S,T:=a1.c.T }:Csr) }:WorkerWorker)).length)) <|
  Option.bind (Zcg ({ a2 with c:=({ r3.C with N:=a2.c.N,S:=a2.c.S,T:=a2.c.T }:Csr) }:WorkerWorker)) fun (r136,a9) =>
  if a9=true then
  (gd (apok (a0++([r136])).length 56) <|
  some (.inl (a7.l,(a3+1),(a0++([r136])),((a4.set (0:Int).toNat ({ a1 with c:=({ r3.C with N:=a1.c.N,S:=a1.c.S,T:=a1.c.T }:Csr) }:WorkerWorker)).set (0:Int).toNat ({ a2 with c:=({ r3.C with N:=a2.c.N,S:=a2.c.S,T:=a2.c.T }:Csr) }:WorkerWorker)))))
  else
  some (.inl (a7.l,(a3+1),a0,((a4.set (0:Int).toNat ({ a1 with c:=({ r3.C with N:=a1.c.N,S:=a1.c.S,T:=a1.c.T }:Csr) }:WorkerWorker)).set (0:Int).toNat ({ a2 with c:=({ r3.C with N:=a2.c.N,S:=a2.c.S,T:=a2.c.T }:Csr) }:WorkerWorker)))))
  else
  some (.inr (a7.l,a0,(a4.set (0:Int).toNat ({ a1 with c:=({ r3.C with N:=a1.c.N,S:=a1.c.S,T:=a1.c.T }:Csr) }:WorkerWorker)))))
  else
  some (.inr (a6,a0,(a4.set (0:Int).toNat ({ a5 with c:=({ r3.C with N:=a5.c.N,S:=a5.c.S,T:=a5.c.T }:Csr) }:WorkerWorker))))
def Z7b (a0:Bool):Option (Bool) :=
  some a0
def Zb3 (r3:Acequialaw16Phase)(a0:List Int)(a1:Bool):Option (Bool) :=
  if a1=true then
  (gd (i64ok (r3.L.Flag+1)) <|
  Option.bind (Vl (CellsBank.mk a0) (r3.L.Flag+1)) fun a2 =>
  Z7b (decide (a2=0)))
  else
  Z7b false
def Za4 (r3:Acequialaw16Phase)(a0:List Int)(a1:Bool):Option (Bool) :=
  if a1=true then
  (Option.bind (Vl (CellsBank.mk a0) r3.L.Pending) fun a2 =>
  Zb3 r3 a0 (decide (a2=0)))
  else
  Zb3 r3 a0 false
def Z81 (r3:Acequialaw16Phase)(a0:List Int)(a1:Bool):Option (Bool) :=
  if a1=true then
  (gd (i64ok (r3.L.Ex+1)) <|
  Option.bind (Vl (CellsBank.mk a0) (r3.L.Ex+1)) fun a2 =>
  Za4 r3 a0 (decide (a2=2)))
  else
  Za4 r3 a0 false
def Z80 (r3:Acequialaw16Phase)(a0:List Int)(a1:Bool):Option (Bool) :=
  if a1=true then
  (gd (i64ok (r3.L.Ex+2)) <|
  Option.bind (Vl (CellsBank.mk a0) (r3.L.Ex+2)) fun a2 =>
  Z81 r3 a0 (decide (a2=3)))
  else
  Z81 r3 a0 false
def Zbm (r3:Acequialaw16Phase)(a3:List Int)(a0:List Evt)(a2:List WorkerWorker):Option (Bool) :=
  if (a0.length:Int)≠3 then
  (some false)
  else
  gd (inb 0 a0.length) <|
  if (!decide (([(a0.getD (0:Int).toNat default).Who,(a0.getD (0:Int).toNat default).What,(a0.getD (0:Int).toNat default).U,(a0.getD (0:Int).toNat default).Arc,(a0.getD (0:Int).toNat default).D,(a0.getD (0:Int).toNat default).H,(a0.getD (0:Int).toNat default).Low]:List Int)=[0,2,1,0,0,1,0]))=true then
  (some false)
  else
  gd (inb 1 a0.length) <|
  if (!decide (([(a0.getD (1:Int).toNat default).Who,(a0.getD (1:Int).toNat default).What,(a0.getD (1:Int).toNat default).U,(a0.getD (1:Int).toNat default).Arc,(a0.getD (1:Int).toNat default).D,(a0.getD (1:Int).toNat default).H,(a0.getD (1:Int).toNat default).Low]:List Int)=[0,1,1,2,3,1,0]))=true then
  (some false)
  else
  gd (inb 2 a0.length) <|
  if (!decide (([(a0.getD (2:Int).toNat default).Who,(a0.getD (2:Int).toNat default).What,(a0.getD (2:Int).toNat default).U,(a0.getD (2:Int).toNat default).Arc,(a0.getD (2:Int).toNat default).D,(a0.getD (2:Int).toNat default).H,(a0.getD (2:Int).toNat default).Low]:List Int)=[0,2,1,0,0,3,3]))=true then
  (some false)
  else
  Option.bind (Km a2 0) fun a1 =>
  gd (inb 0 a2.length) <|
  Option.bind (Xm ({ a1 with c:=({ r3.C with N:=a1.c.N,S:=a1.c.S,T:=a1.c.T }:Csr) }:WorkerWorker)) fun a4 =>
  if a4=true then
  (gd (inb 0 a2.length) <|
  Option.bind (Zce ({ a1 with c:=({ r3.C with N:=a1.c.N,S:=a1.c.S,T:=a1.c.T }:Csr) }:WorkerWorker)) fun a5 =>
  Z80 r3 a3 (decide (a5=2)))
  else
  Z80 r3 a3 false
def Zae  : Option (Bool) :=
  Option.bind (Z3n (Net.mk 3 0 2 ([(Arc.mk 0 1 5),(Arc.mk 1 2 3)])) 1 9) fun (r3,r4) =>
  if (!r4)=true then
  (some false)
  else
  Option.bind (Zc7 r3.Dealt ([1])) fun a0 =>
  if (!a0)=true then
  (some false)
  else
  Option.bind (Xz (fun s=>Zbe r3 s.1 s.2.1 s.2.2.1 s.2.2.2) Xo (r3.B.l,0,([]:List Evt),r3.W)) fun (p1_0_0,p1_0_1,p1_0_2)=>Zbm r3 p1_0_0 p1_0_1 p1_0_2
def Z6v (n0:Net)(a1 a2:Int)(a0:List Int):Option (Bool) :=
  Option.bind (Z76 n0 a1 a2) fun (r3,r4,r5) =>
  if (!r5)=true then
  (some false)
  else
  gd (0≤(min (a0.length:Int) 1000)∧(min (a0.length:Int) 1000)≤(a0.length:Int)) <|
  Option.bind (Z5x r4 (a0.take (min (a0.length:Int) 1000).toNat) 6000 r3 r4) fun (a3,a5,a6) =>
  if a3=true then
  (Option.bind Zae fun a4 =>
  some a4)
  else
  some false
end Go.Acq
namespace Go.Acq
open Go Go.RowKit
section rules
variable {C : Cx} {ops : Array Oper} {Q : Exit → Act → World → Prop} {l : List Nat} {E : Env} {H R : Heap} {i d : Nat} {ty : TypeId} {Zo : String} {af : Array Edge} {g : Option (Nat × Bool)}
theorem Zq {c:Code}{E':Env}(hE:AllF E' E)(h:T C c Q E' H):T C c Q E H:=T.weak h hE.sub (Yb _)
end rules
end Go.Acq
namespace Go.Acq
open Go Go.RowKit
section rules
variable {C : Cx} {ops : Array Oper} {Q : Exit → Act → World → Prop} {l : List Nat} {E : Env} {H R : Heap} {i d : Nat} {ty : TypeId} {Zo : String} {af : Array Edge} {g : Option (Nat × Bool)}
end rules
end Go.Acq
namespace Go.Acq
open Go Go.RowKit Go.ChangeShapes Go.WideShapes Go.Deep Go.Joins
section
variable {H : Type} {enc : TypeId × Value → H} {P : Program} {w : World} {base : Nat} {spare : Nat → Bool} {held : Bool}
theorem Zn2 {t e:TypeId}{fs:Array Field}{fuel:Nat}{cs:List Value}{x:DataW H×List MemPlace}(ht:P.underlying t=some (.slice e))(he:P.underlying e=some (.struct fs))
    (hone:oneCellFields P fs=true)(hC:P.cellsOf e=fs.size)(h:DataW.trod enc P w base spare held fuel t cs=some x) :
    (cs=[.slice none 0 0]∧x=(.nil,[])) ∨
    ∃ (a:Addr) (len cap m:Nat) (D:Nat→DataW H) (Pl:Nat→List MemPlace),cs=[.slice (some a) len cap]∧base≤a.block∧len≤cap∧cap≤maxLen∧m=(if spare a.block then cap else len) ∧
      x=(.slice ((List.range len).map D) ((List.range (m-len)).map fun j=>D (len+j)),MemPlace.row a (m*fs.size)++(List.range m).flatMap Pl) ∧
      ∀ i,i<m→∃ (ys:List (DataW H×List MemPlace)) (n:Nat),D i=.agg (ys.map (·.1))∧Pl i=ys.flatMap (·.2)∧ys.length=fs.size ∧
        ∀ (j:Nat) (f:Field),fs[j]?=some f→∃ (v:Value) (y:DataW H×List MemPlace),w.cell? (a.add (i*fs.size+j))=some v∧ys[j]?=some y∧DataW.trod enc P w base spare held n f.type [v]=some y:=by
  rcases open_slice ht h with h0 | ⟨a,len,cap,m,n,D,Pl,hcs,hb,hl,hm,hmm,hx,hi⟩
  ·exact .inl h0
  · refine .inr ⟨a, len, cap, m, D, Pl, hcs, hb, hl, hm, hmm, by rw [hC] at hx; exact hx, fun i him => ?_⟩
    obtain ⟨cs',hc,ht'⟩:=hi i him
    rw [hC] at hc
    obtain ⟨ys,n',hn',hy,hlen,hyl,hf⟩:=DataW.trod_struct he ht'
    obtain ⟨_,hcl,hat⟩:=World.cells?_some hc
    simp only [Prod.mk.injEq] at hy
    refine ⟨ys,n',hy.1,hy.2,hyl,fun j f hj=>?_⟩
    obtain ⟨ho,hk⟩:=hone_of hone j f hj
    have hjl:j<fs.size:=(Array.getElem?_eq_some_iff.1 hj).1
    have hcell:=hat j hjl
    have hv:cs'[j]?=some (cs'[j]'(by omega)):=List.getElem?_eq_getElem (by omega)
    have h1:=hf j f hj
    rw [ho,hk] at h1
    have hone':(cs'.drop j).take 1=[cs'[j]'(by omega)]:=by
      rw [List.drop_eq_getElem_cons (by omega)]
      rfl
    rw [hone'] at h1
    have hys:ys[j]?=some (ys[j]'(by omega)):=List.getElem?_eq_getElem (by omega)
    refine ⟨_,_,?_,hys,h1.trans hys⟩
    rw [←Go.Deep.add_add,hcell,hv]
end
section
variable {H : Type} {enc : TypeId × Value → H} {P : Program} {w : World} {base : Nat} {spare : Nat → Bool} {held : Bool}
def fitI (x:Int):Prop:=-9223372036854775808≤x∧x≤9223372036854775807
theorem Zbw {x:Int}(h:(Lit.int .i64 x).wf=true):fitI x:=by
 unfold fitI;simp [Lit.wf,IntKind.min,IntKind.max,IntKind.signed,IntKind.bits] at h;omega
theorem open_arcs {t e:TypeId}{fs:Array Field}{f0 f1 f2:Field}{fuel:Nat}{v:Value}{x:DataW H×List MemPlace}(ht:P.underlying t=some (.slice e))(he:P.underlying e=some (.struct fs))(hfs:fs=#[f0,f1,f2])
    (hone:oneCellFields P fs=true)(hC:P.cellsOf e=fs.size)(k0:P.underlying f0.type=some (.int .i64))(k1:P.underlying f1.type=some (.int .i64))(k2:P.underlying f2.type=some (.int .i64))
    (h:DataW.trod enc P w base spare held fuel t [v]=some x) :
    ∃ (b:Option Addr) (n c:Nat) (al:List Arc),v=.slice b n c∧RO w Xj 3 b n al∧n≤c∧n≤9223372036854775807∧∀ a,a∈al→fitI a.fr∧fitI a.to∧fitI a.cap:=by
  rcases Zn2 ht he hone hC h with ⟨hcs,_⟩ | ⟨a,l,c,m,D,Pl,hcs,_,hl,hm,hmm,_,hi⟩
  · injection hcs with h1 _
    exact ⟨none,0,0,[],h1,Zfo w (fun _=>rfl),Nat.le_refl _,by omega,fun y hy=>by cases hy⟩
  · injection hcs with h1 _
    have hlm:l≤m:=by rw [hmm];split <;> omega
    have key:∀ i,i<l→∃ q:Arc,w.cell? (a.add (i*3+0))=some (.int .i64 q.fr)∧w.cell? (a.add (i*3+1))=some (.int .i64 q.to)∧w.cell? (a.add (i*3+2))=some (.int .i64 q.cap)∧fitI q.fr∧fitI q.to∧fitI q.cap:=by
      intro i hil
      obtain ⟨ys,n,_,_,_,hf⟩:=hi i (by omega)
      subst hfs
      obtain ⟨v0,y0,c0,_,t0⟩:=hf 0 f0 rfl
      obtain ⟨v1,y1,c1,_,t1⟩:=hf 1 f1 rfl
      obtain ⟨v2,y2,c2,_,t2⟩:=hf 2 f2 rfl
      obtain ⟨n0,e0,_,w0⟩:=DataW.trod_int k0 t0
      obtain ⟨n1,e1,_,w1⟩:=DataW.trod_int k1 t1
      obtain ⟨n2,e2,_,w2⟩:=DataW.trod_int k2 t2
      injection e0 with e0 _;injection e1 with e1 _;injection e2 with e2 _
      subst e0;subst e1;subst e2
      exact ⟨⟨n0,n1,n2⟩,c0,c1,c2,Zbw w0,Zbw w1,Zbw w2⟩
    let g:Nat→Arc:=fun i=>if hil:i<l then Classical.choose (key i hil) else default
    have hg:∀ i (hil:i<l),g i=Classical.choose (key i hil):=fun i hil=>by simp only [g,dif_pos hil]
    refine ⟨some a,l,c,(List.range l).map g,h1,⟨by simp,(fun e=>by cases e),arcC_len,fun o q ho hq x hx=>?_⟩,hl,by unfold maxLen at hm;omega,fun y hy=>?_⟩
    · simp only [List.length_map, List.length_range] at ho
      have hs:=Classical.choose_spec (key o ho)
      rw [←hg o ho] at hs
      have hxo:x=g o:=by
        rw [List.getElem?_map,List.getElem?_range ho] at hx
        simpa using hx.symm
      subst hxo
      rcases (show q=0∨q=1∨q=2 by omega) with rfl | rfl | rfl
      ·exact hs.1
      ·exact hs.2.1
      ·exact hs.2.2.1
    · obtain ⟨i, hil, rfl⟩ := List.mem_map.1 hy
      have hil:=List.mem_range.1 hil
      have hs:=Classical.choose_spec (key i hil)
      rw [←hg i hil] at hs
      exact hs.2.2.2
end
end Go.Acq
namespace Go.Acq
open Go Go.RowKit Go.ChangeShapes Go.WideShapes Go.Deep Go.Joins
theorem i64ok_wf {x:Int}(h:(Lit.int .i64 x).wf=true):i64ok x:=by simp [Lit.wf,IntKind.min,IntKind.max,IntKind.signed,IntKind.bits] at h;omega
theorem u8ok_wf {x:Int}(h:(Lit.int .u8 x).wf=true):u8ok x:=by simp [Lit.wf,IntKind.min,IntKind.max,IntKind.signed,IntKind.bits] at h;omega
section
variable {H : Type} {enc : TypeId × Value → H} {P : Program} {w : World} {base : Nat} {spare : Nat → Bool} {held : Bool}
theorem open_row {t e:TypeId}{k:IntKind}{fuel:Nat}{v:Value}{x:DataW H×List MemPlace}(ht:P.underlying t=some (.slice e))(he:P.underlying e=some (.int k))(hc:P.cellsOf e=1)
    (h:DataW.trod enc P w base spare held fuel t [v]=some x) :
    ∃ (b:Option Addr) (n c:Nat) (xs:List Int),v=.slice b n c∧RO w (intC k) 1 b n xs∧n≤c∧n≤9223372036854775807∧∀ y,y∈xs→(Lit.int k y).wf=true:=by
  rcases open_ints ht he hc h with ⟨hcs,_⟩ | ⟨a,l,c,zs,hcs,_,hl,hm,hz,_,hcell,hwz⟩
  · injection hcs with h1 _
    exact ⟨none,0,0,[],h1,Zfo w (fun _=>rfl),Nat.le_refl _,by omega,fun y hy=>by cases hy⟩
  · injection hcs with h1 _
    have hlz:l≤zs.length:=by rw [hz];split <;> omega
    refine ⟨some a,l,c,zs.take l,h1,⟨by rw [List.length_take];omega,(fun e=>by cases e),fun _=>rfl,fun o q ho hq x hx=>?_⟩,hl,by unfold maxLen at hm;omega,fun y hy=>hwz y (List.mem_of_mem_take hy)⟩
    rw [List.length_take] at ho
    have hq0:q=0:=by omega
    subst hq0
    rw [List.getElem?_take,if_pos (by omega)] at hx
    have:=hcell o (by omega)
    rw [List.getD_eq_getElem?_getD,hx] at this
    simpa [ea,intC] using this
end
end Go.Acq
namespace Go.Acq
open Go Go.RowKit
abbrev SM:=Option Addr×Nat×Nat
section
variable {α : Type} {w w0 : World} {M M' : List Nat} {f : α → List Value} {s n c : Nat} {base : Option Addr} {ms : List SM} {xss : List (List α)} {H Hm R : Heap}
end
section rules
variable {C : Cx} {ops : Array Oper} {Q : Exit → Act → World → Prop} {l : List Nat} {E : Env} {H R : Heap} {i d : Nat} {ty : TypeId} {Zo : String} {af : Array Edge} {g : Option (Nat × Bool)}
end rules
open Go.ChangeShapes Go.WideShapes Go.Deep Go.Joins
section
variable {H : Type} {enc : TypeId × Value → H} {P : Program} {w : World} {base : Nat} {spare : Nat → Bool} {held : Bool}
end
end Go.Acq
namespace Go.Acq
open Go Go.RowKit
end Go.Acq
namespace Go.Acq
open Go Go.RowKit
end Go.Acq
namespace Go.Acq
open Go Go.RowKit Go.ChangeShapes Go.WideShapes Go.Deep Go.Joins
section
variable {H : Type} {enc : TypeId × Value → H} {P : Program} {w : World} {base : Nat} {spare : Nat → Bool} {held : Bool}
end
end Go.Acq
namespace Go.Acq
open Go Go.RowKit
section
variable {w0 w w' w'' : World} {M M' : List Nat} {H H' Hm R : Heap} {b : Nat} {o o' : Obj}
theorem Pick.skip {p:Option Nat×Obj}(h:Pick H' H):Pick H' (p::H):=by
 obtain ⟨S,ns,hn,hS⟩:=h
 refine ⟨p::S,ns,hn,?_⟩
 rw [List.cons_append]
 exact (List.Perm.cons p hS).trans List.perm_middle.symm
theorem HB.monoM {cs:List Value}(h:HB w0 M b cs)(hne:cs≠[])(hi:Inv w0 M w H)(hp:List.Perm H (Hm++R))(hM:Hm.filterMap (·.1)=M'):HB w M' b cs :=
 ⟨fun j v hj=>hi.cell_old (h.has j v hj) h.far,fun hm=>by
  subst hM
  obtain ⟨o,ho⟩:=Z3d hm
  obtain ⟨v,cs',rfl⟩:=List.exists_cons_of_ne_nil hne
  have h0:=h.has 0 v rfl
  have hb:b<w0.heap.size:=by
   unfold World.cell? at h0
   split at h0
   ·rename_i he;exact (Array.getElem?_eq_some_iff.1 he).1
   ·cases h0
  rcases hi.low b o ((List.Perm.mem_iff hp).2 (List.mem_append_left _ ho)) with hl | hl
  ·omega
  ·exact h.far hl⟩
end
section rules
variable {C : Cx} {ops : Array Oper} {Q : Exit → Act → World → Prop} {l : List Nat} {E : Env} {H R : Heap} {i d : Nat} {ty : TypeId} {Zo : String} {af : Array Edge} {g : Option (Nat × Bool)}
end rules
section control
variable {C : Cx} {Q : Exit → Act → World → Prop} {E : Env} {H : Heap}
end control
section ends
variable {C : Cx} {E : Env} {H H' N : Heap}
end ends
end Go.Acq
namespace Go.Acq
open Go Go.RowKit
theorem Lp {C:Cx}{Q:Exit→Act→World→Prop}{e:Exit}{E:Env}{H H':Heap}(h:H'=H)(k:X C Q e E H):X C Q e E H':=by rw [h];exact k
theorem Z0y {C:Cx}{Q:Exit→Act→World→Prop}{c:Code}{E:Env}{H H':Heap}(h:H'=H)(k:T C c Q E H):T C c Q E H':=by rw [h];exact k
end Go.Acq
namespace Go.Acq
open Go Go.RowKit
theorem Xg {C:Cx}{P:Program}{fn:Func}{R:Ending→World→Prop}{E:Env}{H:Heap}(h:X C (bodyPost P fn R) .ret E H):X C (bodyPost P fn R) .normal E H:=h
end Go.Acq
namespace Go.Acq
open Go Go.RowKit
section
variable {C : Cx} {ops : Array Oper} {Q : Exit → Act → World → Prop} {l l2 : List Nat} {E E' : Env} {H H' : Heap}
def JQ (C:Cx)(Q:Exit→Act→World→Prop)(d:Nat)(φ:Bool→Prop)(E:Env)(H:Heap):Exit→Act→World→Prop
  | .normal,a,w=>∃ b,φ b∧Fits C.n C.D ((d,.bool b)::E) a∧Inv C.w0 C.M w H
  | e,a,w=>Q e a w
theorem TO.join (l1 l2:List Nat)(hl:l1++l2=l)(d:Nat)(φ:Bool→Prop)(E':Env)(h1:TO C ops (JQ C Q d φ E' H) l1 E H)(h2:∀ b,φ b→TO C ops Q l2 ((d,.bool b)::E') H):TO C ops Q l E H:=by
 subst hl
 intro a w hf hi
 refine Z4k (Q':=JQ C Q d φ E' H) (fun e a w hne h=>?_) (fun a w h=>?_) l1 a w (h1 a w hf hi)
 ·cases e <;> first | exact absurd rfl hne | exact h
 ·
  obtain ⟨b,hb,hfit,hinv⟩:=h
  exact h2 b hb a w hfit hinv
theorem Vi {d:Nat}{φ:Bool→Prop}{b:Bool}(h:φ b)(hE:AllF ((d,.bool b)::E') E):X C (JQ C Q d φ E' H) .normal E H:=fun _ _ hf hi=>⟨b,h,hf.weak hE.sub,hi⟩
end
end Go.Acq
namespace Go.Acq
open Go Go.RowKit
def Gv (P:Program)(K:World→Prop)(w:World)(v:Value):Result Next→Prop
  | .ok (.value u) w'=>w'=w∧u=v
  | .ok (.enter f args) w'=>w'=w∧Calls P f args w (fun e w''=>e=.returned v∧K w'')
  | _=>False
def Jw (P:Program)(ops:Array Oper)(K:World→Prop)(Qn:Act→Prop):List Nat→Act→Prop
  | [],a=>Qn a
  | i::rest,a=>match ops[i]? with
    | none=>Jw P ops K Qn rest a
    | some o=>(∀ c,o.op≠.defer c)∧(∀ cs b,o.op≠.select cs b) ∧
        if Region.wanted o (yielded ops a.tmps)=true then ∃ v,(∀ w,K w→Gv P K w v ((execOp a.eval o).run P w))∧Jw P ops K Qn rest (a.put o.dst v)
        else Jw P ops K Qn rest (a.put o.dst undef)
def TQ (C:Cx)(ops:Array Oper)(Qn:Act→Prop)(l:List Nat)(E:Env)(H:Heap):Prop:=∀ a,Fits C.n C.D E a→Jw C.P ops (fun w=>Inv C.w0 C.M w H) Qn l a
def seqB (ops:Array Oper)(m:Nat):Bool:=(List.range m).all fun i=>match ops[i]? with
  | none=>false
  | some o=>(match o.dst with | some d=>(List.range m).all fun j=>Nat.beq j i||!(Xi ops j==some d) | none=>false) &&
      (o.looksAt ops).all fun t=>(List.range m).all fun j=>!(Xi ops j==some t)||(Nat.blt j i&&Vh ops ops.size i j)
section
variable {C : Cx} {ops : Array Oper} {Q : Exit → Act → World → Prop} {E : Env} {H : Heap}
def Uo (ops:Array Oper)(vs:Nat→Value)(a:Act):Nat→Act
  | 0=>a
  | i+1=>(Uo ops vs a i).put (Xi ops i) (vs i)
structure DoneQ (ops:Array Oper)(m:Nat)(vs:Nat→Value)(a0:Act)(done:Nat→Bool)(a:Act):Prop where
  size:a.tmps.size=a0.tmps.size
  defers:a.defers=a0.defers
  has:∀ j d,j<m→done j=true→Xi ops j=some d→d<a0.tmps.size→a.tmps[d]?=some (vs j)
  old:∀ t,(∀ j,j<m→done j=true→Xi ops j≠some t)→a.tmps[t]?=a0.tmps[t]?
theorem DoneQ.put {m:Nat}{vs:Nat→Value}{a0 a:Act}{done:Nat→Bool}{i d:Nat}(h:DoneQ ops m vs a0 done a)(hi:i<m)(hd:Xi ops i=some d)(hu:∀ j,j<m→j≠i→Xi ops j≠some d) :
    DoneQ ops m vs a0 (fun q=>if q=i then true else done q) (a.put (some d) (vs i)):=by
  refine ⟨by simpa [Act.put] using h.size,h.defers,fun j e hj hdj hs hlt=>?_,fun t ht=>?_⟩
  · simp only [Act.put, Array.getElem?_setIfInBounds]
    by_cases c:j=i
    · subst c
      rw [hd] at hs;injection hs with hs;subst hs
      rw [if_pos rfl,if_pos (by rw [h.size];exact hlt)]
    · have hne : d ≠ e := by rintro rfl; exact hu j hj c hs
      rw [if_neg hne]
      exact h.has j e hj (by simpa [c] using hdj) hs hlt
  · simp only [Act.put, Array.getElem?_setIfInBounds]
    have hne:d≠t:=by rintro rfl;exact ht i hi (by simp) hd
    rw [if_neg hne]
    exact h.old t fun j hj hdj=>ht j hj (by by_cases c:j=i <;> simp [c,hdj])
theorem Zhf {a a':Act}{t:Nat}(h:a.tmps[t]?=a'.tmps[t]?):a.eval (.tmp t)=a'.eval (.tmp t):=by
 simp [Act.eval,Array.getD_eq_getD_getElem?,h]
theorem Z3q {m:Nat}{vs:Nat→Value}{a0 a a':Act}{done done':Nat→Bool}{o:Oper}(h:DoneQ ops m vs a0 done a)(h':DoneQ ops m vs a0 done' a')
    (hl:∀ t,t∈o.looksAt ops→∀ j,j<m→Xi ops j=some t→done j=true∧done' j=true) :
    (∀ x,x∈o.op.operands→a.eval x=a'.eval x)∧Region.wanted o (yielded ops a.tmps)=Region.wanted o (yielded ops a'.tmps):=by
  have key:∀ t:Nat,t∈o.looksAt ops→a.tmps[t]?=a'.tmps[t]?:=by
    intro t ht
    by_cases c:∃ j,j<m∧Xi ops j=some t
    · obtain ⟨j, hj, hs⟩ := c
      obtain ⟨d1,d2⟩:=hl t ht j hj hs
      by_cases hlt:t<a0.tmps.size
      ·rw [h.has j t hj d1 hs hlt,h'.has j t hj d2 hs hlt]
      ·rw [Array.getElem?_eq_none (by rw [h.size];omega),Array.getElem?_eq_none (by rw [h'.size];omega)]
    · have hn : ∀ j, j < m → Xi ops j ≠ some t := fun j hj hs => c ⟨j, hj, hs⟩
      rw [h.old t fun j hj _=>hn j hj,h'.old t fun j hj _=>hn j hj]
  refine ⟨fun x hx=>?_,?_⟩
  · cases x with
    | tmp t=>exact Zhf (key t (List.mem_append_left _ (List.mem_filterMap.2 ⟨.tmp t,by simpa using hx,rfl⟩)))
    | const v=>rfl
    | global g=>rfl
    | func f=>rfl
  · unfold Region.wanted
    cases hg:o.guard with
    | none=>rfl
    | some gw =>
      obtain ⟨g,want⟩:=gw
      have:yielded ops a.tmps g=yielded ops a'.tmps g:=by
        unfold yielded
        cases ht:(ops[g]?).bind (·.dst) with
        | none=>rfl
        | some t =>
          have:=key t (List.mem_append_right _ (by rw [hg];simp [ht]))
          simp only [Option.bind_some,this]
      simp only [this]
theorem Zhm {K:World→Prop}{Qn:Act→Prop}{vs0:Nat→Value}{a0:Act}:∀ (k i:Nat),(∀ j,j<i+k→∃ o,ops[j]?=some o)→Jw C.P ops K Qn (List.range' i k) (Uo ops vs0 a0 i) →
    ∃ vs:Nat→Value,(∀ j,j<i→vs j=vs0 j)∧(∀ j o,i≤j→j<i+k→ops[j]?=some o→(∀ c,o.op≠.defer c)∧(∀ cs b,o.op≠.select cs b) ∧
      ((Region.wanted o (yielded ops (Uo ops vs a0 j).tmps)=true∧∀ w,K w→Gv C.P K w (vs j) ((execOp (Uo ops vs a0 j).eval o).run C.P w))∨(Region.wanted o (yielded ops (Uo ops vs a0 j).tmps)=false∧vs j=undef)))∧Qn (Uo ops vs a0 (i+k))
  | 0,i,_,h=>⟨vs0,fun _ _=>rfl,fun j o h1 h2=>by omega,h⟩
  | k+1,i,hops,h=>by
    obtain ⟨o,ho⟩:=hops i (by omega)
    rw [List.range'_succ] at h
    simp only [Jw,ho] at h
    obtain ⟨hd,hs,h⟩:=h
    have hslot:Xi ops i=o.dst:=by simp [Xi,ho]
    obtain ⟨v,hv,hrest⟩:∃ v,((Region.wanted o (yielded ops (Uo ops vs0 a0 i).tmps)=true∧∀ w,K w→Gv C.P K w v ((execOp (Uo ops vs0 a0 i).eval o).run C.P w))∨(Region.wanted o (yielded ops (Uo ops vs0 a0 i).tmps)=false∧v=undef)) ∧
        Jw C.P ops K Qn (List.range' (i+1) k) ((Uo ops vs0 a0 i).put o.dst v):=by
      by_cases hw:Region.wanted o (yielded ops (Uo ops vs0 a0 i).tmps)=true
      · rw [if_pos hw] at h
        obtain ⟨v,h1,h2⟩:=h
        exact ⟨v,.inl ⟨hw,h1⟩,h2⟩
      · rw [if_neg hw] at h
        exact ⟨undef,.inr ⟨by simpa using hw,rfl⟩,h⟩
    have hcongr:∀ (vs':Nat→Value),(∀ j,j<i→vs' j=vs0 j)→∀ j,j≤i→Uo ops vs' a0 j=Uo ops vs0 a0 j:=by
      intro vs' hvs j
      induction j with
      | zero=>intro _;rfl
      | succ j ih=>intro hj;simp only [Uo];rw [ih (by omega),hvs j (by omega)]
    let vs1:Nat→Value:=fun j=>if j=i then v else vs0 j
    have e1:Uo ops vs1 a0 (i+1)=(Uo ops vs0 a0 i).put o.dst v:=by
      simp only [Uo]
      rw [hcongr vs1 (fun j hj=>by simp only [vs1];rw [if_neg (by omega)]) i (Nat.le_refl _),hslot]
      simp only [vs1,if_true]
    rw [←e1] at hrest
    obtain ⟨vs,g1,g2,g3⟩:=Zhm k (i+1) (fun j hj=>hops j (by omega)) hrest
    have gi:vs i=v:=by rw [g1 i (by omega)];simp only [vs1,if_true]
    have gl:∀ j,j<i→vs j=vs0 j:=fun j hj=>by rw [g1 j (by omega)];simp only [vs1];rw [if_neg (by omega)]
    refine ⟨vs,gl,fun j o' h1 h2 ho'=>?_,by rw [show i+(k+1)=i+1+k by omega];exact g3⟩
    by_cases c:j=i
    · subst c
      rw [ho] at ho';injection ho' with ho';subst ho'
      rw [hcongr vs gl j (Nat.le_refl _),gi]
      exact ⟨hd,hs,hv⟩
    ·exact g2 j o' (by omega) (by omega) ho'
theorem Zbv {m:Nat}{vs:Nat→Value}{a0:Act}(hu:∀ i,i<m→∃ d,Xi ops i=some d∧∀ j,j<m→j≠i→Xi ops j≠some d):∀ i,i≤m→DoneQ ops m vs a0 (fun q=>decide (q<i)) (Uo ops vs a0 i)
 | 0,_=>⟨rfl,rfl,fun j d _ h=>by simp at h,fun t _=>rfl⟩
 | i+1,hi=>by
  obtain ⟨d,hd,hud⟩:=hu i (by omega)
  have:=(Zbv (vs:=vs) (a0:=a0) hu i (by omega)).put (by omega) hd hud
  simp only [Uo]
  rw [hd]
  have e:(fun q:Nat=>decide (q<i+1))=fun q=>if q=i then true else decide (q<i):=by
   funext q
   by_cases c:q=i
   ·simp [c]
   ·
    have:(q<i+1)↔q<i:=by omega
    simp [c,this]
  rw [e];exact this
theorem Xy {id:Nat}(m:Nat)(ll:List Nat)(hll:List.range m=ll)(hm:C.P.follows .mixedOrders=true)(hb:Ni ops=true)(ht:Z1e ops m=true)(hms:Nat.ble m ops.size=true)(hs:seqB ops m=true)
    (k:TQ C ops (fun a=>∀ w,Inv C.w0 C.M w H→wpOpsIn (FW C.ρ) 0 C.P ops Q (List.range' m (ops.size-m)) a w) ll E H):T C (.region id ops true) Q E H:=by
  subst hll
  intro a0 w hf hi
  have hms':=Nat.le_of_ble_eq_true hms
  have hseq:∀ i,i<m→∃ o d,ops[i]?=some o∧Xi ops i=some d∧(∀ j,j<m→j≠i→Xi ops j≠some d)∧∀ t,t∈o.looksAt ops→∀ j,j<m→Xi ops j=some t→j<i∧Vh ops ops.size i j=true:=by
    intro i him
    have h1:=List.all_eq_true.1 hs i (List.mem_range.2 him)
    have ho:ops[i]?=some ops[i]:=Array.getElem?_eq_getElem (by omega)
    rw [ho] at h1
    simp only [Bool.and_eq_true] at h1
    cases hd:(ops[i]).dst with
    | none=>rw [hd] at h1;simp at h1
    | some d =>
      rw [hd] at h1
      refine ⟨ops[i],d,ho,by simp [Xi,ho,hd],fun j hj hji he=>?_,fun t htl j hj hsj=>?_⟩
      · have h2 := List.all_eq_true.1 h1.1 j (List.mem_range.2 hj)
        simp only [Bool.or_eq_true] at h2
        rcases h2 with h2 | h2
        ·exact hji (Nat.eq_of_beq_eq_true h2)
        ·rw [he] at h2;simp at h2
      · have h2 := List.all_eq_true.1 (List.all_eq_true.1 h1.2 t htl) j (List.mem_range.2 hj)
        rw [hsj] at h2
        simpa using h2
  have hu:∀ i,i<m→∃ d,Xi ops i=some d∧∀ j,j<m→j≠i→Xi ops j≠some d:=fun i h=>by
    obtain ⟨_,d,_,h1,h2,_⟩:=hseq i h;exact ⟨d,h1,h2⟩
  have hk:=k a0 hf
  rw [List.range_eq_range'] at hk
  obtain ⟨vs,-,hstep,hend⟩:=Zhm (C:=C) (vs0:=fun _=>undef) (a0:=a0) m 0 (fun j hj=>by obtain ⟨o,_,ho,_⟩:=hseq j (by omega);exact ⟨o,ho⟩) hk
  rw [Nat.zero_add] at hend
  refine Zcf (m:=m) (Jp:=fun done a w=>DoneQ ops m vs a0 done a∧Inv C.w0 C.M w H) hm hb ht hms' ?_ ?_ ⟨⟨rfl,rfl,fun j d _ h=>by simp at h,fun t _=>rfl⟩,hi.ofHeap rfl rfl rfl rfl⟩
  · rintro done i o a w1 him ho hdi hcl hafter _ ⟨hD, hinv⟩
    obtain ⟨o',d,ho',hsl,hud,hlook⟩:=hseq i him
    rw [ho] at ho';injection ho' with ho';subst ho'
    have hdst:o.dst=some d:=by simpa [Xi,ho] using hsl
    have hdone:∀ j,Vh ops ops.size i j=true→done j=true:=fun j hj=>Nw hcl _ i j hj (fun o' ho'=>by rw [ho] at ho';injection ho' with ho';subst ho';exact hafter)
    obtain ⟨hev,hwt⟩:=Z3q hD (Zbv hu i (by omega)) (o:=o) (fun t htl j hj hsj=>by
      obtain ⟨h1,h2⟩:=hlook t htl j hj hsj
      exact ⟨hdone j h2,by simpa using h1⟩)
    obtain ⟨hnd,hns,hval⟩:=hstep i o (by omega) (by omega) ho
    have hex:=execOp_congr o hns hev
    have hput:=hD.put him hsl hud
    unfold wpOpIn
    rw [ho]
    simp only
    rcases hval with ⟨hw,hq⟩ | ⟨hw,hq⟩
    · rw [hwt, hw]
      simp only [if_true]
      refine ⟨fun _ _=>trivial,?_⟩
      rw [Oper.semAt_eq _ _ _ hnd,hex]
      have hq:=hq w1 hinv
      generalize (execOp (Uo ops vs a0 i).eval o).run C.P w1=r at hq
      cases r with
      | ok x w' =>
        cases x <;> simp only [Gv] at hq
        case value u =>
          obtain ⟨rfl,rfl⟩:=hq
          show _∧_
          rw [hdst]
          exact ⟨hput,hinv⟩
        case enter f args =>
          obtain ⟨rfl,hc⟩:=hq
          refine ⟨by simp [FW],callsIn_FW.2 (Calls.mono hc ?_)⟩
          rintro e w'' ⟨rfl,hK⟩
          show _∧_
          rw [hdst]
          exact ⟨hput,hK⟩
      | halt x w'=>simp only [Gv] at hq
    · rw [hwt, hw]
      simp only [Bool.false_eq_true,if_false]
      refine ⟨fun _ _=>trivial,?_⟩
      rw [hdst,←hq]
      exact ⟨hput,hinv⟩
  · rintro done a w1 hall ⟨hD, hinv⟩
    have hA:=Zbv (vs:=vs) (a0:=a0) hu m (Nat.le_refl _)
    have ea:a=Uo ops vs a0 m:=by
      have e1:a.tmps=(Uo ops vs a0 m).tmps:=by
        apply Array.ext_getElem?
        intro t
        by_cases c:∃ j,j<m∧Xi ops j=some t
        · obtain ⟨j, hj, hsj⟩ := c
          by_cases hlt:t<a0.tmps.size
          ·rw [hD.has j t hj (hall j hj) hsj hlt,hA.has j t hj (by simpa using hj) hsj hlt]
          ·rw [Array.getElem?_eq_none (by rw [hD.size];omega),Array.getElem?_eq_none (by rw [hA.size];omega)]
        · have hn : ∀ j, j < m → Xi ops j ≠ some t := fun j hj hsj => c ⟨j, hj, hsj⟩
          rw [hD.old t fun j hj _=>hn j hj,hA.old t fun j hj _=>hn j hj]
      have e2:a.defers=(Uo ops vs a0 m).defers:=by rw [hD.defers,hA.defers]
      cases a;simp_all
    rw [ea]
    exact hend w1 hinv
theorem Xx {m k:Nat}(l:List Nat){H0:Heap}(q0_:List.range' m k=l∧H0=H)(h:TO C ops Q l E H):TQ C ops (fun a=>∀ w,Inv C.w0 C.M w H→wpOpsIn (FW C.ρ) 0 C.P ops Q (List.range' m k) a w) [] E H0:=have ⟨hl,hH⟩:=q0_;fun a hf w hi=>by rw [hl];exact h a w hf hi
end
end Go.Acq
namespace Go.Acq
open Go Go.RowKit
section rules
variable {C : Cx} {ops : Array Oper} {Q : Act → Prop} {l : List Nat} {E : Env} {H R : Heap} {i d : Nat} {ty : TypeId} {Zo : String} {af : Array Edge} {g : Option (Nat × Bool)}
theorem TQ.val {op:Op}{v:Value}(ho:ops[i]?=some ⟨some d,op,ty,Zo,af,g⟩)(hg:Ya ops E g=true)(hd:Nat.ble (d+1) C.n=true)(hnd:∀ c,op≠.defer c)
    (hr:∀ a w,Fits C.n C.D E a→Inv C.w0 C.M w H→(execOp a.eval ⟨some d,op,ty,Zo,af,g⟩).run C.P w=.ok (.value v) w)
    (k:TQ C ops Q l ((d,v)::E) H)(hns:∀ cs b,op≠.select cs b:=by simp):TQ C ops Q (i::l) E H:=by
  intro a hf
  simp only [Jw,ho]
  refine ⟨hnd,hns,?_⟩
  rw [if_pos (Zao hf hg)]
  exact ⟨v,fun w hi=>by rw [hr a w hf hi];exact ⟨rfl,rfl⟩,k _ (hf.put hd v)⟩
theorem Vg {o:Oper}(q0_:ops[i]?=some o∧gdN ops E o.guard=true∧o.dst=some d∧Nat.ble (d+1) C.n=true)(k:TQ C ops Q l ((d,undef)::E) H)(hnd:∀ c,o.op≠.defer c:=by simp)(hns:∀ cs b,o.op≠.select cs b:=by simp):TQ C ops Q (i::l) E H:=by
 obtain ⟨ho,hg,hdst,hd⟩:=q0_
 intro a hf
 simp only [Jw,ho]
 refine ⟨hnd,hns,?_⟩
 rw [if_neg (by rw [Zg1 hf hg];simp),hdst]
 exact k _ (hf.put hd _)
theorem Ra {t:Nat}{b b':Bool}(ht:find E t=some (.bool b))(hb:b=b')(k:TQ C ops Q l ((t,.bool b')::E) H):TQ C ops Q l E H:=by
 subst hb
 intro a hf
 refine k a ⟨hf.size,hf.defers,fun u v hu=>?_⟩
 rw [Kv] at hu
 by_cases e:t=u
 ·subst e;rw [if_pos rfl] at hu;injection hu with hu;subst hu;exact hf.get t _ ht
 ·rw [if_neg e] at hu;exact hf.get u v hu
theorem Kd {f:FuncId}{xs:Array Operand}{at':Array TypeId}{vs:List Value}{v:Value}{Post:Value→Heap→Prop}(hF:Yc C.P f=true)
    (q0_:ops[i]?=some ⟨some d,.call ⟨.value (.func f),xs,at'⟩,ty,Zo,af,g⟩∧Ya ops E g=true∧Nat.ble (d+1) C.n=true∧Ku E xs.toList=some vs)
    (hc:∀ w,Inv C.w0 C.M w H→Fnc C.P f vs.toArray w [] Post)(hv:∀ u N,Post u N→u=v)(k:TQ C ops Q l ((d,v)::E) H):TQ C ops Q (i::l) E H:=by
  obtain ⟨ho,hg,hd,hx⟩:=q0_
  intro a hf
  simp only [Jw,ho]
  refine ⟨by simp,by simp,?_⟩
  rw [if_pos (Zao hf hg)]
  refine ⟨v,fun w hi=>?_,k _ (hf.put hd v)⟩
  have e1:xs.map a.eval=vs.toArray:=by apply Array.ext';simpa using Ln hf hx
  have:(execOp a.eval ⟨some d,.call ⟨.value (.func f),xs,at'⟩,ty,Zo,af,g⟩).run C.P w=.ok (.enter f vs.toArray) w:=by
    simp [execOp,resolve,Deferred.ofValue,invoke,Act.eval,e1,Z3o hF]
  rw [this]
  refine ⟨rfl,Calls.mono (hc w hi) ?_⟩
  rintro e w' ⟨u,N,hP,rfl,hN⟩
  exact ⟨by rw [hv u N hP],(hi.join0 hN).perm List.perm_append_comm |>.left⟩
theorem TQ.move {x:Operand}{v:Value}(q0_:ops[i]?=some ⟨some d,.move x,ty,Zo,af,g⟩∧Ya ops E g=true∧Nat.ble (d+1) C.n=true∧ev E x=some v)
    (k:TQ C ops Q l ((d,v)::E) H):TQ C ops Q (i::l) E H:=have ⟨ho,hg,hd,hx⟩:=q0_;
  TQ.val ho hg hd (by simp) (fun a w hf _=>by simp [execOp,hf.ev hx]) k
theorem Z7j {c x y:Operand}{v:Value}(q0_:ops[i]?=some ⟨some d,.pick c x y,ty,Zo,af,g⟩∧Ya ops E g=true∧Nat.ble (d+1) C.n=true∧ev E c=some (.bool true)∧ev E x=some v)(k:TQ C ops Q l ((d,v)::E) H):TQ C ops Q (i::l) E H:=have ⟨ho,hg,hd,hc,hx⟩:=q0_;
  TQ.val ho hg hd (by simp) (fun a w hf _=>by simp [execOp,hf.ev hc,hf.ev hx,asBool]) k
theorem Z7i {c x y:Operand}{v:Value}(q0_:ops[i]?=some ⟨some d,.pick c x y,ty,Zo,af,g⟩∧Ya ops E g=true∧Nat.ble (d+1) C.n=true∧ev E c=some (.bool false)∧ev E y=some v)(k:TQ C ops Q l ((d,v)::E) H):TQ C ops Q (i::l) E H:=have ⟨ho,hg,hd,hc,hx⟩:=q0_;
  TQ.val ho hg hd (by simp) (fun a w hf _=>by simp [execOp,hf.ev hc,hf.ev hx,asBool]) k
theorem Ji {op:BinOp}{t t2:TypeId}{x y:Operand}{k:IntKind}{p q:Int}{v:Value}
    (q0_:ops[i]?=some ⟨some d,.binOp op t x y t2,ty,Zo,af,g⟩∧Ya ops E g=true∧Nat.ble (d+1) C.n=true∧ev E x=some (.int k p)∧ev E y=some (.int k q)∧Lb op k p q=some v)(kk:TQ C ops Q l ((d,v)::E) H):TQ C ops Q (i::l) E H:=have ⟨ho,hg,hd,hx,hy,hv⟩:=q0_;
  TQ.val ho hg hd (by simp) (fun a w hf _=>by simp [execOp,hf.ev hx,hf.ev hy,eqGuard_at_int,Zf4 hv]) kk
theorem TQ.add {t t2:TypeId}{x y:Operand}{p q:Int}
    (ho:ops[i]?=some ⟨some d,.binOp .add t x y t2,ty,Zo,af,g⟩)(hg:Ya ops E g=true)(hd:Nat.ble (d+1) C.n=true)(hx:ev E x=some (.int .i64 p))(hy:ev E y=some (.int .i64 q))
    (h1:-9223372036854775808≤p+q)(h2:p+q≤9223372036854775807)(kk:TQ C ops Q l ((d,.int .i64 (p+q))::E) H):TQ C ops Q (i::l) E H :=
  Ji ⟨ho,hg,hd,hx,hy,(by simp only [Lb];rw [Nf h1 h2])⟩ kk
theorem TQ.sub {t t2:TypeId}{x y:Operand}{p q:Int}
    (ho:ops[i]?=some ⟨some d,.binOp .sub t x y t2,ty,Zo,af,g⟩)(hg:Ya ops E g=true)(hd:Nat.ble (d+1) C.n=true)(hx:ev E x=some (.int .i64 p))(hy:ev E y=some (.int .i64 q))
    (h1:-9223372036854775808≤p-q)(h2:p-q≤9223372036854775807)(kk:TQ C ops Q l ((d,.int .i64 (p-q))::E) H):TQ C ops Q (i::l) E H :=
  Ji ⟨ho,hg,hd,hx,hy,(by simp only [Lb];rw [Nf h1 h2])⟩ kk
theorem TQ.rem {t t2:TypeId}{x y:Operand}{k:IntKind}{p q:Int}
    (q0_:ops[i]?=some ⟨some d,.binOp .rem t x y t2,ty,Zo,af,g⟩∧Ya ops E g=true∧Nat.ble (d+1) C.n=true∧ev E x=some (.int k p)∧ev E y=some (.int k q))
    (h0:q≠0)(kk:TQ C ops Q l ((d,.int k (p.tmod q))::E) H):TQ C ops Q (i::l) E H:=have ⟨ho,hg,hd,hx,hy⟩:=q0_;
  TQ.val ho hg hd (by simp) (fun a w hf _=>by simp [execOp,hf.ev hx,hf.ev hy,eqGuard_at_int,binOp,Op.intDiv,h0]) kk
theorem TQ.neg {t:TypeId}{x:Operand}{k:IntKind}{p:Int}(q0_:ops[i]?=some ⟨some d,.unOp .neg t x,ty,Zo,af,g⟩∧Ya ops E g=true∧Nat.ble (d+1) C.n=true∧ev E x=some (.int k p))(kk:TQ C ops Q l ((d,.int k (k.wrap (-p)))::E) H):TQ C ops Q (i::l) E H:=have ⟨ho,hg,hd,hx⟩:=q0_;
  TQ.val ho hg hd (by simp) (fun a w hf _=>by simp [execOp,hf.ev hx,Op.unary,Op.intArith]) kk
theorem TQ.conv {s t:TypeId}{x:Operand}{k q:IntKind}{p:Int}(ho:ops[i]?=some ⟨some d,.convert s t x,ty,Zo,af,g⟩)(hg:Ya ops E g=true)(hd:Nat.ble (d+1) C.n=true)
    (hx:ev E x=some (.int k p))(hs:(C.P.underlying s).isSome=true)(ht:intT C.P t=some q)(kk:TQ C ops Q l ((d,.int q (q.wrap p))::E) H):TQ C ops Q (i::l) E H :=
  TQ.val ho hg hd (by simp) (fun a w hf _=>by
    have hu:=Zek ht
    cases hs':C.P.underlying s with
    | none=>simp [hs'] at hs
    | some ds=>simp [execOp,hf.ev hx,convert,run_underlying hs',run_underlying hu,Conv.intToInt]) kk
theorem Zli {s t:TypeId}{x:Operand}{k q:IntKind}{p:Int}(q0_:ops[i]?=some ⟨some d,.convert s t x,ty,Zo,af,g⟩∧Ya ops E g=true∧Nat.ble (d+1) C.n=true∧ev E x=some (.int k p))(hs:(C.P.underlying s).isSome=true)(ht:intT C.P t=some q)(hw:q.wrap p=p)(kk:TQ C ops Q l ((d,.int q p)::E) H):TQ C ops Q (i::l) E H:=have ⟨ho,hg,hd,hx⟩:=q0_;
  TQ.conv ho hg hd hx hs ht (by rw [hw];exact kk)
theorem TQ.makeFunc {f:Fn}{fs cs:Array Operand}{vs us:List Value}(q0_:ops[i]?=some ⟨some d,.makeFunc f fs cs,ty,Zo,af,g⟩∧Ya ops E g=true∧Nat.ble (d+1) C.n=true∧Ku E fs.toList=some vs∧Ku E cs.toList=some us)(kk:TQ C ops Q l ((d,.func f vs.toArray us.toArray)::E) H):TQ C ops Q (i::l) E H:=have ⟨ho,hg,hd,hf,hc⟩:=q0_;
  TQ.val ho hg hd (by simp) (fun a w hfit _=>by
    have e1:fs.map a.eval=vs.toArray:=by apply Array.ext';simpa using Ln hfit hf
    have e2:cs.map a.eval=us.toArray:=by apply Array.ext';simpa using Ln hfit hc
    simp [execOp,Instr.makeFunc,e1,e2]) kk
theorem TQ.fieldAddr {s:TypeId}{x:Operand}{f o b p:Nat}(q0_:ops[i]?=some ⟨some d,.fieldAddr s x f,ty,Zo,af,g⟩∧Ya ops E g=true∧Nat.ble (d+1) C.n=true∧ev E x=some (.pointer (some ⟨b,p,none⟩)))(hT:Yp C.P s f=some o)(kk:TQ C ops Q l ((d,.pointer (some ⟨b,p+o,none⟩))::E) H):TQ C ops Q (i::l) E H:=have ⟨ho,hg,hd,hx⟩:=q0_;
  TQ.val ho hg hd (by simp) (fun a w hf _=>by simp [execOp,hf.ev hx,Zcs hT]) kk
theorem Yo {s:TypeId}{x:Operand}{f o b:Nat}(q0_:ops[i]?=some ⟨some d,.fieldAddr s x f,ty,Zo,af,g⟩∧Ya ops E g=true∧Nat.ble (d+1) C.n=true∧ev E x=some (.pointer (some ⟨b,0,none⟩)))(hT:Yp C.P s f=some o)(kk:TQ C ops Q l ((d,.pointer (some ⟨b,o,none⟩))::E) H):TQ C ops Q (i::l) E H:=have ⟨ho,hg,hd,hx⟩:=q0_;
  TQ.fieldAddr ⟨ho,hg,hd,hx⟩ hT (by rw [Nat.zero_add];exact kk)
theorem TQ.build {t:TypeId}{ps:Array (Nat×Operand)}{vs:List (Nat×Value)}{cs:Array Value}(ho:ops[i]?=some ⟨some d,.build t ps,ty,Zo,af,g⟩)(hg:Ya ops E g=true)(hd:Nat.ble (d+1) C.n=true)
    (hx:Nl E ps.toList=some vs)(hb:C.P.built t vs=some cs)
    (kk:TQ C ops Q l ((d,.agg cs)::E) H):TQ C ops Q (i::l) E H :=
  TQ.val ho hg hd (by simp) (fun a w hf _=>by
    have e1:(ps.map (fun p=>(p.1,a.eval p.2))).toList=vs:=by simpa using Z72 hf hx
    have:=run_build (P:=C.P) w t (ps.map (fun p=>(p.1,a.eval p.2))) cs (by rw [e1];exact hb)
    simp [execOp,this]) kk
theorem Zol {t:TypeId}{ps:Array (Nat×Operand)}{vs:List (Nat×Value)}{cs:List Value}(z:List Value)(offs:List Nat)(q0_:ops[i]?=some ⟨some d,.build t ps,ty,Zo,af,g⟩∧Ya ops E g=true∧Nat.ble (d+1) C.n=true∧Nl E ps.toList=some vs)(_hcs:Yq offs z vs=cs)(hb:C.P.built t vs=some cs.toArray)
    (kk:TQ C ops Q l ((d,.agg cs.toArray)::E) H):TQ C ops Q (i::l) E H:=have ⟨ho,hg,hd,hx⟩:=q0_;TQ.build ho hg hd hx hb kk
theorem TQ.load {t:TypeId}{x:Operand}{ad:Addr}{v:Value}(ho:ops[i]?=some ⟨some d,.load t x,ty,Zo,af,g⟩)(hg:Ya ops E g=true)(hd:Nat.ble (d+1) C.n=true)
    (hx:ev E x=some (.pointer (some ad)))(hT:Wj C.P t=true)(hc:∀ w,Inv C.w0 C.M w H→w.cell? ad=some v)
    (kk:TQ C ops Q l ((d,v)::E) H):TQ C ops Q (i::l) E H :=
  TQ.val ho hg hd (by simp) (fun a w hf hi=>by simp [execOp,hf.ev hx,Instr.loadAt,Instr.sureAddr,Zff hT (hc w hi)]) kk
theorem Yr {t T':TypeId}{x:Operand}{b o:Nat}{cs:Array Value}{fr:Nat×Nat}{v:Value}(q0_:ops[i]?=some ⟨some d,.load t x,ty,Zo,af,g⟩∧Ya ops E g=true∧Nat.ble (d+1) C.n=true∧ev E x=some (.pointer (some ⟨b,o,none⟩)))(hT:Wj C.P t=true)(hm:(some b,Obj.cells cs T' fr)∈H)(hv:cs[o]?=some v)
    (kk:TQ C ops Q l ((d,v)::E) H):TQ C ops Q (i::l) E H:=have ⟨ho,hg,hd,hx⟩:=q0_;
  TQ.load ho hg hd hx hT (fun w hi=>by rw [hi.cell_own hm];exact hv) kk
theorem Zd9 {t:TypeId}{x:Operand}{ad:Addr}{k:Nat}{cs:List Value}(ho:ops[i]?=some ⟨some d,.load t x,ty,Zo,af,g⟩)(hg:Ya ops E g=true)(hd:Nat.ble (d+1) C.n=true)
    (hx:ev E x=some (.pointer (some ad)))(hT:Va C.P t k=true)(hk:cs.length=k)(hc:∀ w,Inv C.w0 C.M w H→∀ j v,cs[j]?=some v→w.cell? (ad.add j)=some v)
    (kk:TQ C ops Q l ((d,.agg cs.toArray)::E) H):TQ C ops Q (i::l) E H :=
  TQ.val ho hg hd (by simp) (fun a w hf hi=>by simp [execOp,hf.ev hx,Instr.loadAt,Instr.sureAddr,Zbi hT hk (hc w hi)]) kk
theorem Zby {t T':TypeId}{x:Operand}{b k:Nat}{cs:List Value}{fr:Nat×Nat}(q0_:ops[i]?=some ⟨some d,.load t x,ty,Zo,af,g⟩∧Ya ops E g=true∧Nat.ble (d+1) C.n=true∧ev E x=some (.pointer (some ⟨b,0,none⟩)))(hT:Va C.P t k=true)(hm:(some b,Obj.cells cs.toArray T' fr)∈H)(hk:cs.length=k)
    (kk:TQ C ops Q l ((d,.agg cs.toArray)::E) H):TQ C ops Q (i::l) E H:=have ⟨ho,hg,hd,hx⟩:=q0_;
  Zd9 ho hg hd hx hT hk (fun w hi j v hv=>by rw [Addr.add_mid,Nat.zero_add,hi.cell_own hm];simpa using hv) kk
theorem TQ.ldI {t T':TypeId}{x:Operand}{b o:Nat}{k:IntKind}{xs:List Int}{j:List Value}{fr:Nat×Nat}(ho:ops[i]?=some ⟨some d,.load t x,ty,Zo,af,g⟩)(hg:Ya ops E g=true)(hd:Nat.ble (d+1) C.n=true)
    (hx:ev E x=some (.pointer (some ⟨b,o,none⟩)))(hT:Wj C.P t=true)(hm:(some b,Obj.cells (arr (intC k) xs j).toArray T' fr)∈H)(hv:o<xs.length)
    (kk:TQ C ops Q l ((d,.int k (xs.getD o 0))::E) H):TQ C ops Q (i::l) E H :=
  Yr ⟨ho,hg,hd,hx⟩ hT hm (by
    have:=Z1l (f:=intC k) (s:=1) (fun _=>rfl) 0 xs j o 0 hv (by omega)
    simpa using this) kk
theorem Zdv {t e:TypeId}{x y:Operand}{base:Option Addr}{n c s:Nat}{k:IntKind}{p:Int}(ho:ops[i]?=some ⟨some d,.indexAddr t x y,ty,Zo,af,g⟩)(hg:Ya ops E g=true)(hd:Nat.ble (d+1) C.n=true)
    (hx:ev E x=some (.slice base n c))(hy:ev E y=some (.int k p))(ht:Wm C.P t=some e)(hs:Xc C.P e=some s)(hb:base=none→n=0)(h0:0≤p)(h1:p<n)
    (kk:TQ C ops Q l ((d,.pointer (some (ea base (p.toNat*s))))::E) H):TQ C ops Q (i::l) E H :=
  TQ.val ho hg hd (by simp) (fun a w hf hi=>by
    cases base with
    | none=>exact absurd h1 (by simp [hb rfl];omega)
    | some b =>
      have hu:=Gj ht
      simp [execOp,hf.ev hx,hf.ev hy,Instr.indexAt,asIntOf,run_underlying hu,h0,h1,Lq hs,ea]) kk
theorem TQ.index {t e:TypeId}{x y:Operand}{b o n c s:Nat}{k:IntKind}{p:Int}(ho:ops[i]?=some ⟨some d,.indexAddr t x y,ty,Zo,af,g⟩)(hg:Ya ops E g=true)(hd:Nat.ble (d+1) C.n=true)
    (hx:ev E x=some (.slice (some ⟨b,o,none⟩) n c))(hy:ev E y=some (.int k p))(ht:Wm C.P t=some e)(hs:Xc C.P e=some s)(h0:0≤p)(h1:p<n)
    (kk:TQ C ops Q l ((d,.pointer (some ⟨b,o+p.toNat*s,none⟩))::E) H):TQ C ops Q (i::l) E H :=
  Zdv ho hg hd hx hy ht hs (by simp) h0 h1 (by simpa [ea,Addr.add_mid] using kk)
theorem Zp2 {t e:TypeId}{x y:Operand}{b n c s:Nat}{k:IntKind}{p:Int}(ho:ops[i]?=some ⟨some d,.indexAddr t x y,ty,Zo,af,g⟩)(hg:Ya ops E g=true)(hd:Nat.ble (d+1) C.n=true)
    (hx:ev E x=some (.slice (some ⟨b,0,none⟩) n c))(hy:ev E y=some (.int k p))(ht:Wm C.P t=some e)(hs:Xc C.P e=some s)(h0:0≤p)(h1:p<n)
    (kk:TQ C ops Q l ((d,.pointer (some ⟨b,p.toNat*s,none⟩))::E) H):TQ C ops Q (i::l) E H :=
  TQ.index ho hg hd hx hy ht hs h0 h1 (by rw [Nat.zero_add];exact kk)
theorem Ziw {t e:TypeId}{x y:Operand}{base:Option Addr}{n c s:Nat}{k:IntKind}{p:Int}(ho:ops[i]?=some ⟨some d,.slice t x none (some y) none,ty,Zo,af,g⟩)(hg:Ya ops E g=true)(hd:Nat.ble (d+1) C.n=true)
    (hx:ev E x=some (.slice base n c))(hy:ev E y=some (.int k p))(ht:Wm C.P t=some e)(hs:Xc C.P e=some s)(h0:0≤p)(h1:p≤c)
    (kk:TQ C ops Q l ((d,.slice base p.toNat c)::E) H):TQ C ops Q (i::l) E H :=
  TQ.val ho hg hd (by simp) (fun a w hf hi=>by
    have hu:=Gj ht
    have hb:∀ b:Option Addr,Option.map (fun x=>x.add 0) b=b:=fun b=>by cases b <;> simp [Addr.add]
    simp [execOp,hf.ev hx,hf.ev hy,Instr.sliceAt,Instr.slice,Instr.sliceBounds,Instr.sliceBound,asIntOf,run_underlying hu,h0,h1,Lq hs,hb]) kk
theorem TQ.len {t:TypeId}{at':Array TypeId}{x:Operand}{e:TypeId}{base:Option Addr}{n c:Nat}
    (ho:ops[i]?=some ⟨some d,.call ⟨.builtin .len,#[x],at'⟩,ty,Zo,af,g⟩)(hg:Ya ops E g=true)(hd:Nat.ble (d+1) C.n=true)(hat:at'[0]?=some t)
    (hx:ev E x=some (.slice base n c))(ht:Wm C.P t=some e)(kk:TQ C ops Q l ((d,.int .i64 n)::E) H):TQ C ops Q (i::l) E H :=
  TQ.val ho hg hd (by simp) (fun a w hf _=>by
    simp [execOp,resolve,invoke,builtin,hf.ev hx,Builtin.len_,hat,run_underlying (Gj ht),goInt]) kk
theorem TQ.min2 {at':Array TypeId}{x y:Operand}{k:IntKind}{p q:Int}
    (q0_:ops[i]?=some ⟨some d,.call ⟨.builtin .min,#[x,y],at'⟩,ty,Zo,af,g⟩∧Ya ops E g=true∧Nat.ble (d+1) C.n=true∧ev E x=some (.int k p)∧ev E y=some (.int k q))(kk:TQ C ops Q l ((d,.int k (min p q))::E) H):TQ C ops Q (i::l) E H:=have ⟨ho,hg,hd,hx,hy⟩:=q0_;
  TQ.val ho hg hd (by simp) (fun a w hf _=>by
    have:(if q<p then q else p)=min p q:=by rw [Int.min_def];split <;> split <;> omega
    simp [execOp,resolve,invoke,builtin,hf.ev hx,hf.ev hy,Builtin.min_,Builtin.min2,this]) kk
theorem Zbz {α:Type}{t:TypeId}{at':Array TypeId}{x:Operand}{e:TypeId}{base:Option Addr}{n c:Nat}{xs:List α}(hn:xs.length=n)
    (q0_:ops[i]?=some ⟨some d,.call ⟨.builtin .len,#[x],at'⟩,ty,Zo,af,g⟩∧Ya ops E g=true∧Nat.ble (d+1) C.n=true∧at'[0]?=some t∧ev E x=some (.slice base n c))(ht:Wm C.P t=some e)(kk:TQ C ops Q l ((d,.int .i64 (xs.length:Int))::E) H):TQ C ops Q (i::l) E H:=have ⟨ho,hg,hd,hat,hx⟩:=q0_;
  TQ.len ho hg hd hat hx ht (by rw [←hn];exact kk)
theorem Z05 {α:Type}{f:α→List Value}{M:List Nat}{w:World}{xs:List α}{t e:TypeId}{x y:Operand}{base:Option Addr}{n c s:Nat}{k:IntKind}{p:Int}(hr:RS w M f s base n c xs)(hp:inb p xs.length)
    (q0_:ops[i]?=some ⟨some d,.indexAddr t x y,ty,Zo,af,g⟩∧Ya ops E g=true∧Nat.ble (d+1) C.n=true∧ev E x=some (.slice base n c)∧ev E y=some (.int k p))(ht:Wm C.P t=some e)(hs:Xc C.P e=some s)
    (kk:TQ C ops Q l ((d,.pointer (some (ea base (p.toNat*s))))::E) H):TQ C ops Q (i::l) E H:=have ⟨ho,hg,hd,hx,hy⟩:=q0_;
  Zdv ho hg hd hx hy ht hs hr.ro.nil hp.1 (by have:=hp.2;rw [hr.len] at this;exact this) kk
theorem TQ.ix0 {α:Type}{xs:List α}{t e:TypeId}{x y:Operand}{b n c s:Nat}{k:IntKind}{p:Int}(hn:xs.length=n)(hp:inb p xs.length)
    (ho:ops[i]?=some ⟨some d,.indexAddr t x y,ty,Zo,af,g⟩)(hg:Ya ops E g=true)(hd:Nat.ble (d+1) C.n=true)
    (hx:ev E x=some (.slice (some ⟨b,0,none⟩) n c))(hy:ev E y=some (.int k p))(ht:Wm C.P t=some e)(hs:Xc C.P e=some s)
    (kk:TQ C ops Q l ((d,.pointer (some ⟨b,p.toNat*s,none⟩))::E) H):TQ C ops Q (i::l) E H :=
  Zp2 ho hg hd hx hy ht hs hp.1 (by have:=hp.2;rw [hn] at this;exact this) kk
theorem Z0z {t:TypeId}{x:Operand}{base:Option Addr}{n c:Nat}{k:IntKind}{p:Int}{xs:List Int}(hr:RS C.w0 C.M (intC k) 1 base n c xs)(hp:inb p xs.length)(q0_:ops[i]?=some ⟨some d,.load t x,ty,Zo,af,g⟩∧Ya ops E g=true∧Nat.ble (d+1) C.n=true∧ev E x=some (.pointer (some (ea base (p.toNat*1)))))(hT:Wj C.P t=true)
    (kk:TQ C ops Q l ((d,.int k (xs.getD p.toNat 0))::E) H):TQ C ops Q (i::l) E H:=have ⟨ho,hg,hd,hx⟩:=q0_;
  TQ.load ho hg hd hx hT (fun w hi=>by
    have:=(hr.ro.monoM hr.far hi).at 0 (o:=p.toNat) (c:=0) (Kx hp) (by omega)
    simpa using this) kk
theorem TQ.ldIO {t T':TypeId}{x:Operand}{b:Nat}{k:IntKind}{p:Int}{xs:List Int}{j:List Value}{fr:Nat×Nat}(hp:inb p xs.length)(ho:ops[i]?=some ⟨some d,.load t x,ty,Zo,af,g⟩)(hg:Ya ops E g=true)(hd:Nat.ble (d+1) C.n=true)
    (hx:ev E x=some (.pointer (some ⟨b,p.toNat,none⟩)))(hT:Wj C.P t=true)(hm:(some b,Obj.cells (arr (intC k) xs j).toArray T' fr)∈H)
    (kk:TQ C ops Q l ((d,.int k (xs.getD p.toNat 0))::E) H):TQ C ops Q (i::l) E H:=TQ.ldI ho hg hd hx hT hm (Kx hp) kk
theorem TQ.ldFO {α:Type}{f:α→List Value}{s:Nat}{t T':TypeId}{x:Operand}{b q:Nat}{p:Int}{xs:List α}{j:List Value}{fr:Nat×Nat}{v:Value}(dflt:α)(hf:∀ x,(f x).length=s)(hp:inb p xs.length)(hv:(f (xs.getD p.toNat dflt))[q]?=some v)
    (ho:ops[i]?=some ⟨some d,.load t x,ty,Zo,af,g⟩)(hg:Ya ops E g=true)(hd:Nat.ble (d+1) C.n=true)
    (hx:ev E x=some (.pointer (some ⟨b,p.toNat*s+q,none⟩)))(hT:Wj C.P t=true)(hm:(some b,Obj.cells (arr f xs j).toArray T' fr)∈H)
    (kk:TQ C ops Q l ((d,v)::E) H):TQ C ops Q (i::l) E H :=
  Yr ⟨ho,hg,hd,hx⟩ hT hm (by
    have hqs:q<s:=by rw [←hf (xs.getD p.toNat dflt)];exact (List.getElem?_eq_some_iff.1 hv).1
    have:=Z1l hf dflt xs j p.toNat q (Kx hp) hqs
    rw [List.getElem?_toArray,this];exact hv) kk
theorem Uv {t t2:TypeId}{x y:Operand}{p q:Int}(h:i64ok (p+q))(q0_:ops[i]?=some ⟨some d,.binOp .add t x y t2,ty,Zo,af,g⟩∧Ya ops E g=true∧Nat.ble (d+1) C.n=true∧ev E x=some (.int .i64 p)∧ev E y=some (.int .i64 q))
    (kk:TQ C ops Q l ((d,.int .i64 (p+q))::E) H):TQ C ops Q (i::l) E H:=have ⟨ho,hg,hd,hx,hy⟩:=q0_;TQ.add ho hg hd hx hy h.1 h.2 kk
theorem Zds {t t2:TypeId}{x y:Operand}{p q:Int}(h:i64ok (p-q))(q0_:ops[i]?=some ⟨some d,.binOp .sub t x y t2,ty,Zo,af,g⟩∧Ya ops E g=true∧Nat.ble (d+1) C.n=true∧ev E x=some (.int .i64 p)∧ev E y=some (.int .i64 q))
    (kk:TQ C ops Q l ((d,.int .i64 (p-q))::E) H):TQ C ops Q (i::l) E H:=have ⟨ho,hg,hd,hx,hy⟩:=q0_;TQ.sub ho hg hd hx hy h.1 h.2 kk
theorem Kf {t:TypeId}{x:Operand}{b o:Nat}{cs:List Value}{v:Value}(hc:HB C.w0 C.M b cs)(q0_:ops[i]?=some ⟨some d,.load t x,ty,Zo,af,g⟩∧Ya ops E g=true∧Nat.ble (d+1) C.n=true∧ev E x=some (.pointer (some ⟨b,o,none⟩))∧cs[o]?=some v)(hT:Wj C.P t=true)
    (kk:TQ C ops Q l ((d,v)::E) H):TQ C ops Q (i::l) E H:=have ⟨ho,hg,hd,hx,hv⟩:=q0_;TQ.load ho hg hd hx hT (fun w hi=>hi.cell_old (hc.has o v hv) hc.far) kk
theorem TQ.slH {α:Type}{xs:List α}{t e:TypeId}{x y:Operand}{base:Option Addr}{n c s:Nat}{k:IntKind}{p:Int}(hn:xs.length=n)(hc:n≤c)(hp:0≤p∧p≤(xs.length:Int))
    (q0_:ops[i]?=some ⟨some d,.slice t x none (some y) none,ty,Zo,af,g⟩∧Ya ops E g=true∧Nat.ble (d+1) C.n=true∧ev E x=some (.slice base n c)∧ev E y=some (.int k p))(ht:Wm C.P t=some e)(hs:Xc C.P e=some s)
    (kk:TQ C ops Q l ((d,.slice base p.toNat c)::E) H):TQ C ops Q (i::l) E H:=have ⟨ho,hg,hd,hx,hy⟩:=q0_;
  Ziw ho hg hd hx hy ht hs hp.1 (by have:=hp.2;omega) kk
theorem Zcd {α:Type}{xs:List α}{t e:TypeId}{x y:Operand}{ob:Option Nat}{n c s:Nat}{k:IntKind}{p:Int}(hz:ob=none→c=0)(hc:n≤c)(hn:xs.length=n)(hp:inb p xs.length)
    (q0_:ops[i]?=some ⟨some d,.indexAddr t x y,ty,Zo,af,g⟩∧Ya ops E g=true∧Nat.ble (d+1) C.n=true∧ev E x=some (.slice (sb ob) n c)∧ev E y=some (.int k p))(ht:Wm C.P t=some e)(hs:Xc C.P e=some s)
    (kk:TQ C ops Q l ((d,.pointer (some (ea (sb ob) (p.toNat*s))))::E) H):TQ C ops Q (i::l) E H:=by
  obtain ⟨ho,hg,hd,hx,hy⟩:=q0_
  obtain ⟨b,rfl⟩:=Gm hz hc hn hp
  exact TQ.ix0 hn hp ho hg hd hx hy ht hs (by rw [←Gr];exact kk)
theorem Zgr {t T':TypeId}{x:Operand}{ob:Option Nat}{n c:Nat}{k:IntKind}{p:Int}{xs:List Int}{j:List Value}{fr:Nat×Nat}(hz:ob=none→c=0)(hc:n≤c)(hn:xs.length=n)(hp:inb p xs.length)(q0_:ops[i]?=some ⟨some d,.load t x,ty,Zo,af,g⟩∧Ya ops E g=true∧Nat.ble (d+1) C.n=true∧ev E x=some (.pointer (some (ea (sb ob) (p.toNat*1)))))(hT:Wj C.P t=true)(hm:(ob,Obj.cells (arr (intC k) xs j).toArray T' fr)∈H)
    (kk:TQ C ops Q l ((d,.int k (xs.getD p.toNat 0))::E) H):TQ C ops Q (i::l) E H:=by
  obtain ⟨ho,hg,hd,hx⟩:=q0_
  obtain ⟨b,rfl⟩:=Gm hz hc hn hp
  exact TQ.ldIO hp ho hg hd (by rw [←Gr,←Nat.mul_one p.toNat];exact hx) hT hm kk
end rules
end Go.Acq
namespace Go.Acq
open Go Go.RowKit
section rules
variable {C : Cx} {ops : Array Oper} {Q : Exit → Act → World → Prop} {l : List Nat} {E : Env} {H R : Heap} {i d : Nat} {ty : TypeId} {Zo : String} {af : Array Edge} {g : Option (Nat × Bool)}
end rules
end Go.Acq
namespace Go.Acq
open Go Go.RowKit
section
variable {C : Cx} {Q : Exit → Act → World → Prop} {E : Env} {H : Heap} {c x y : Code}
end
end Go.Acq
namespace Go.Acq
open Go Go.RowKit
theorem Zi {α:Type}{x:α}{l:List α}:x∈x::l:=.head _
theorem Yu {α:Type}{a0 x:α}{l:List α}:x∈a0::x::l:=.tail _ Zi
theorem Wr {α:Type}{a0 a1 x:α}{l:List α}:x∈a0::a1::x::l:=.tail _ Yu
theorem Kh {α:Type}{a0 a1 a2 x:α}{l:List α}:x∈a0::a1::a2::x::l:=.tail _ Wr
theorem Gz {α:Type}{a0 a1 a2 a3 x:α}{l:List α}:x∈a0::a1::a2::a3::x::l:=.tail _ Kh
theorem mm5 {α:Type}{a0 a1 a2 a3 a4 x:α}{l:List α}:x∈a0::a1::a2::a3::a4::x::l:=.tail _ Gz
theorem mm6 {α:Type}{a0 a1 a2 a3 a4 a5 x:α}{l:List α}:x∈a0::a1::a2::a3::a4::a5::x::l:=.tail _ mm5
theorem mm7 {α:Type}{a0 a1 a2 a3 a4 a5 a6 x:α}{l:List α}:x∈a0::a1::a2::a3::a4::a5::a6::x::l:=.tail _ mm6
theorem mm8 {α:Type}{a0 a1 a2 a3 a4 a5 a6 a7 x:α}{l:List α}:x∈a0::a1::a2::a3::a4::a5::a6::a7::x::l:=.tail _ mm7
theorem Ga {α:Type}{a0 a1 a2 a3 a4 a5 a6 a7 a8 x:α}{l:List α}:x∈a0::a1::a2::a3::a4::a5::a6::a7::a8::x::l:=.tail _ mm8
theorem Rp {α:Type}{a0 a1 a2 a3 a4 a5 a6 a7 a8 a9 x:α}{l:List α}:x∈a0::a1::a2::a3::a4::a5::a6::a7::a8::a9::x::l:=.tail _ Ga
theorem Kn {α:Type}{a0 a1 a2 a3 a4 a5 a6 a7 a8 a9 a10 x:α}{l:List α}:x∈a0::a1::a2::a3::a4::a5::a6::a7::a8::a9::a10::x::l:=.tail _ Rp
theorem mm12 {α:Type}{a0 a1 a2 a3 a4 a5 a6 a7 a8 a9 a10 a11 x:α}{l:List α}:x∈a0::a1::a2::a3::a4::a5::a6::a7::a8::a9::a10::a11::x::l:=.tail _ Kn
theorem Zc {x:Option Nat×Obj}{l:Heap}:Take x (x::l) (l):=Take.head _ _
theorem Zt {a0 x:Option Nat×Obj}{l:Heap}:Take x (a0::x::l) (a0::l):=Jl Zc
theorem Zz {a0 a1 x:Option Nat×Obj}{l:Heap}:Take x (a0::a1::x::l) (a0::a1::l):=Jl Zt
theorem Xn {a0 a1 a2 x:Option Nat×Obj}{l:Heap}:Take x (a0::a1::a2::x::l) (a0::a1::a2::l):=Jl Zz
theorem Ur {a0 a1 a2 a3 x:Option Nat×Obj}{l:Heap}:Take x (a0::a1::a2::a3::x::l) (a0::a1::a2::a3::l):=Jl Xn
theorem Uy {a0 a1 a2 a3 a4 x:Option Nat×Obj}{l:Heap}:Take x (a0::a1::a2::a3::a4::x::l) (a0::a1::a2::a3::a4::l):=Jl Ur
theorem tk6 {a0 a1 a2 a3 a4 a5 x:Option Nat×Obj}{l:Heap}:Take x (a0::a1::a2::a3::a4::a5::x::l) (a0::a1::a2::a3::a4::a5::l):=Jl Uy
theorem Gu {a0 a1 a2 a3 a4 a5 a6 x:Option Nat×Obj}{l:Heap}:Take x (a0::a1::a2::a3::a4::a5::a6::x::l) (a0::a1::a2::a3::a4::a5::a6::l):=Jl tk6
theorem tk8 {a0 a1 a2 a3 a4 a5 a6 a7 x:Option Nat×Obj}{l:Heap}:Take x (a0::a1::a2::a3::a4::a5::a6::a7::x::l) (a0::a1::a2::a3::a4::a5::a6::a7::l):=Jl Gu
theorem Wi {a0 a1 a2 a3 a4 a5 a6 a7 a8 x:Option Nat×Obj}{l:Heap}:Take x (a0::a1::a2::a3::a4::a5::a6::a7::a8::x::l) (a0::a1::a2::a3::a4::a5::a6::a7::a8::l):=Jl tk8
theorem Kw {a0 a1 a2 a3 a4 a5 a6 a7 a8 a9 x:Option Nat×Obj}{l:Heap}:Take x (a0::a1::a2::a3::a4::a5::a6::a7::a8::a9::x::l) (a0::a1::a2::a3::a4::a5::a6::a7::a8::a9::l):=Jl Wi
theorem tk11 {a0 a1 a2 a3 a4 a5 a6 a7 a8 a9 a10 x:Option Nat×Obj}{l:Heap}:Take x (a0::a1::a2::a3::a4::a5::a6::a7::a8::a9::a10::x::l) (a0::a1::a2::a3::a4::a5::a6::a7::a8::a9::a10::l):=Jl Kw
theorem tk12 {a0 a1 a2 a3 a4 a5 a6 a7 a8 a9 a10 a11 x:Option Nat×Obj}{l:Heap}:Take x (a0::a1::a2::a3::a4::a5::a6::a7::a8::a9::a10::a11::x::l) (a0::a1::a2::a3::a4::a5::a6::a7::a8::a9::a10::a11::l):=Jl tk11
theorem tk13 {a0 a1 a2 a3 a4 a5 a6 a7 a8 a9 a10 a11 a12 x:Option Nat×Obj}{l:Heap}:Take x (a0::a1::a2::a3::a4::a5::a6::a7::a8::a9::a10::a11::a12::x::l) (a0::a1::a2::a3::a4::a5::a6::a7::a8::a9::a10::a11::a12::l):=Jl tk12
theorem tk14 {a0 a1 a2 a3 a4 a5 a6 a7 a8 a9 a10 a11 a12 a13 x:Option Nat×Obj}{l:Heap}:Take x (a0::a1::a2::a3::a4::a5::a6::a7::a8::a9::a10::a11::a12::a13::x::l) (a0::a1::a2::a3::a4::a5::a6::a7::a8::a9::a10::a11::a12::a13::l):=Jl tk13
theorem Gone.refl (R:Heap):List.Perm R ([]++R):=List.Perm.refl R
section rules
variable {C : Cx} {ops : Array Oper} {Q : Exit → Act → World → Prop} {l : List Nat} {E : Env} {H R : Heap} {i d : Nat} {ty : TypeId} {Zo : String} {af : Array Edge} {g : Option (Nat × Bool)}
theorem TO.nilCheck {x:Operand}{p:Addr}(q0_:ops[i]?=some ⟨some d,.nilCheck x,ty,Zo,af,g⟩∧Ya ops E g=true∧Nat.ble (d+1) C.n=true∧ev E x=some (.pointer (some p)))
    (k:TO C ops Q l ((d,.pointer (some p))::E) H):TO C ops Q (i::l) E H:=have ⟨ho,hg,hd,hx⟩:=q0_;
  TO.val ho hg hd (by simp) (fun a w hf _=>by simp [execOp,hf.ev hx]) k
end rules
section rules
variable {C : Cx} {ops : Array Oper} {Q : Act → Prop} {l : List Nat} {E : Env} {H R : Heap} {i d : Nat} {ty : TypeId} {Zo : String} {af : Array Edge} {g : Option (Nat × Bool)}
theorem TQ.nilCheck {x:Operand}{p:Addr}(q0_:ops[i]?=some ⟨some d,.nilCheck x,ty,Zo,af,g⟩∧Ya ops E g=true∧Nat.ble (d+1) C.n=true∧ev E x=some (.pointer (some p)))
    (k:TQ C ops Q l ((d,.pointer (some p))::E) H):TQ C ops Q (i::l) E H:=have ⟨ho,hg,hd,hx⟩:=q0_;
  TQ.val ho hg hd (by simp) (fun a w hf _=>by simp [execOp,hf.ev hx]) k
end rules
section draw
variable {C : Cx} {ops : Array Oper} {Q : Exit → Act → World → Prop} {E : Env} {H : Heap}
theorem Z9b {A B Tl:Heap}(X Hx:Heap):List.Perm (X++((A++Tl)++(B++Hx))) (X++(A++(B++(Tl++Hx)))):=by
 refine List.Perm.append_left X ?_
 rw [List.append_assoc]
 refine List.Perm.append_left A ?_
 rw [←List.append_assoc,←List.append_assoc]
 exact List.Perm.append_right Hx List.perm_append_comm
theorem ObQ.tail {S:List Sp}{W:Env}{Hc:Heap}{i:Nat}(Tl:Heap)(h:ObQ C ops Q S W Hc i):ObQ C ops Q S W (Hc++Tl) i:=by
 intro vs es Es Hx hr a w hf hi
 refine Z4k (l2:=[]) (fun e a w hne hq=>?_) (fun a w hq=>?_) [i] a w (h vs es Es (Tl++Hx) hr a w hf (hi.perm (Z9b [] Hx)))
 ·cases e <;> first | exact absurd rfl hne | exact hq
 ·
  obtain ⟨v,e',h1,h2,h3⟩:=hq
  exact ⟨v,e',h1,h2,h3.perm (Z9b e' Hx).symm⟩
theorem ObE.tail {S:List Sp}{HR:Nat→List Value→Heap→Prop}{hd:List (List Nat)}{W:Env}{Hc:Heap}{i:Nat}(Tl:Heap)(h:ObE C ops Q S HR hd W Hc i):ObE C ops Q S HR hd W (Hc++Tl) i:=by
 intro vs es Es Hx hb hr hh a w hf hi
 refine Z4k (l2:=[]) (fun e a w hne hq=>?_) (fun a w hq=>?_) [i] a w (h vs es Es (Tl++Hx) hb hr hh a w hf (hi.perm (Z9b hb Hx)))
 ·cases e <;> first | exact absurd rfl hne | exact hq
 ·
  obtain ⟨v,hb',h1,h2,h3,h4⟩:=hq
  exact ⟨v,hb',h1,h2,h3,h4.perm (Z9b hb' Hx).symm⟩
theorem Zf1 {S:List Sp}{HR:Nat→List Value→Heap→Prop}{hd:List (List Nat)}{W:Env}{Hc:Heap}(Tl:Heap):∀ {l:List Nat},ObsG C ops Q S HR hd W Hc l→ObsG C ops Q S HR hd W (Hc++Tl) l
 | [],_=>trivial
 | i::l,⟨h1,h2⟩=>by
  refine ⟨?_,Zf1 Tl h2⟩
  cases he:Vc S i with
  | true=>rw [he] at h1;exact ObE.tail Tl h1
  | false=>rw [he] at h1;exact ObQ.tail Tl h1
theorem T.drawLT {id:Nat}(S:List Sp)(sl:List Nat)(m:Nat)(HR:Nat→List Value→Heap→Prop)(hd:List (List Nat))(hb0 Hc Tl:Heap)
    (hm:C.P.follows .mixedOrders=true)(hsm:S.length=m)(hsl:Jf ops (List.range m)=sl)(hb:Ni ops=true)(ht:Z1e ops m=true)(hgood:Z5r ops S hd=true)(hms:Nat.ble m ops.size=true)
    (hn:Rd sl=true)(h0:HR 0 [] hb0)(hH:Pick (hb0++(Hc++Tl)) H)
    (obs:ObsG C ops Q S HR hd (wo sl E) Hc (List.range m))
    (k:∀ (vs:Nat→Value) (es:Nat→Heap) (hb:Heap),Ll S vs es (List.range m)→HR ((List.range m).filter (Vc S)).length ((hd.getD ((List.range m).filter (Vc S)).length []).map vs) hb →
      TO C ops Q (List.range' m (ops.size-m)) (Uq ops vs (List.range m)++wo sl E) ((hb++(Hc++Uc es ((List.range m).filter fun j=>!Lv S j)))++Tl)) :
    T C (.region id ops true) Q E H :=
  Lg S sl m HR hd hb0 (Hc++Tl) hm hsm hsl hb ht hgood hms hn h0 hH (Zf1 Tl obs) fun vs es hb h1 h2 a w hf hi=>k vs es hb h1 h2 a w hf (hi.perm (by
    simp only [List.append_assoc]
    exact List.Perm.append_left hb (List.Perm.append_left Hc List.perm_append_comm)))
end draw
end Go.Acq
namespace Go.Acq
open Go Go.RowKit
section
variable {C : Cx} {ops : Array Oper} {Q : Exit → Act → World → Prop} {l : List Nat} {i d : Nat} {E : Env} {H : Heap} {ty : TypeId} {Zo : String} {af : Array Edge} {g : Option (Nat × Bool)}
theorem TO.shl1 {t t2:TypeId}{x y:Operand}{q:IntKind}{p:Int}(h:i64ok (p*2))(q0_:ops[i]?=some ⟨some d,.binOp .shl t x y t2,ty,Zo,af,g⟩∧Ya ops E g=true∧Nat.ble (d+1) C.n=true∧ev E x=some (.int .i64 p)∧ev E y=some (.int q 1))
    (kk:TO C ops Q l ((d,.int .i64 (p*2))::E) H):TO C ops Q (i::l) E H:=have ⟨ho,hg,hd,hx,hy⟩:=q0_;
  TO.val ho hg hd (by simp) (fun a w hf _=>by
    have e:p*2^min 1 IntKind.i64.bits=p*2:=by rw [show min 1 IntKind.i64.bits=1 from rfl];omega
    simp [execOp,hf.ev hx,hf.ev hy,eqGuard_at_int,binOp,Op.shift,e,Nf h.1 h.2]) kk
end
end Go.Acq
namespace Go.Acq
open Go
structure Chan where
  cap:Nat
  buf:List Int
  deriving DecidableEq
instance:Inhabited Chan:=⟨⟨0,[]⟩⟩
end Go.Acq
namespace Go.Acq
open Go Go.RowKit Go.Conc
section
variable {C : Cx} {Q : Exit → Act → World → Prop} {E E' : Env} {H H' R : Heap} {x y c : Code} {ops : Array Oper} {l : List Nat} {i d : Nat} {ty : TypeId} {Zo : String} {af : Array Edge} {g : Option (Nat × Bool)}
theorem Rj {t T':TypeId}{x:Operand}{b o k:Nat}{cs vs:List Value}{fr:Nat×Nat}(q0_:ops[i]?=some ⟨some d,.load t x,ty,Zo,af,g⟩∧Ya ops E g=true∧Nat.ble (d+1) C.n=true∧ev E x=some (.pointer (some ⟨b,o,none⟩)))(hT:Va C.P t k=true)(hm:(some b,Obj.cells cs.toArray T' fr)∈H)(q1_:(cs.drop o).take k=vs∧vs.length=k)
    (kk:TO C ops Q l ((d,.agg vs.toArray)::E) H):TO C ops Q (i::l) E H:=have ⟨ho,hg,hd,hx⟩:=q0_;have ⟨hv,hk⟩:=q1_;
  Z31 ho hg hd hx hT hk (fun w hi j v hj=>by
    rw [Addr.add_mid,hi.cell_own hm]
    subst hv
    rw [List.getElem?_take] at hj
    split at hj
    ·rw [List.getElem?_drop] at hj;simpa using hj
    ·cases hj) kk
end
end Go.Acq
namespace Go.Acq
open Go Go.RowKit
def eqFs (P:Program):List Field→List IntKind→Nat→Bool
  | [],[],_=>true
  | f::fs,k::ks,o=>f.name != "_"&&Nat.beq f.offset o&&(match P.underlying f.type with | some (.int q)=>decide (q=k) | _=>false)&&eqFs P fs ks (o+1)
  | _,_,_=>false
def eqsT (P:Program)(t:TypeId)(ks:List IntKind):Bool :=
  (match P.underlying t with | some (.struct fs)=>eqFs P fs.toList ks 0 | _=>false)&&!P.stoodInHeld t&&!P.eqGuardType P.depth t
theorem Zfn {P:Program}{w:World}{n:Nat}{xs ys:Array Value}:∀ (fs:List Field) (ks:List IntKind) (o:Nat) (us ws:List Int),eqFs P fs ks o=true→us.length=ks.length→ws.length=ks.length →
    (∀ i,i<ks.length→xs[o+i]?=some (.int (ks.getD i .i64) (us.getD i 0))∧ys[o+i]?=some (.int (ks.getD i .i64) (ws.getD i 0)))→(Op.eqFields (n+1) xs ys fs).run P w=.ok (decide (us=ws)) w
  | [],[],_,[],[],_,_,_,_=>by simp [Op.eqFields]
  | f::fs,k::ks,o,a::us,b::ws,h,ha,hb,hx=>by
    simp only [eqFs,Bool.and_eq_true,bne_iff_ne,ne_eq] at h
    obtain ⟨⟨⟨h1,h2⟩,h3⟩,h4⟩:=h
    have h2:f.offset=o:=Nat.eq_of_beq_eq_true h2
    split at h3
    · rename_i q hq
      have h3:q=k:=of_decide_eq_true h3
      subst h3
      have h0:=hx 0 (by simp)
      simp only [Nat.add_zero,List.getD_cons_zero] at h0
      have ih:=Zfn (w:=w) (n:=n) fs ks (o+1) us ws h4 (by simpa using ha) (by simpa using hb) (fun i hi=>by
        have:=hx (i+1) (by simpa using hi)
        simp only [List.getD_cons_succ] at this
        rwa [show o+1+i=o+(i+1) by omega])
      have hagg:∀ w,(isAgg f.type).run P w=.ok false w:=fun w=>by simp [isAgg,run_underlying hq]
      have hp:∀ (cs:Array Value) v,cs[f.offset]?=some v→∀ w,(part f.type cs f.offset).run P w=.ok v w:=fun cs v hv w=>by
        simp [part,hagg,hv]
      rw [←h2] at h0
      simp only [Op.eqFields,h1,not_false_eq_true,ne_eq,if_true]
      simp only [Sem.run_bind,hp _ _ h0.1,hp _ _ h0.2,Result.andThen_ok,run_equalIn_int w n f.type q q a b hq]
      by_cases hab:a=b
      · subst hab
        simp [ih]
      ·simp [hab]
    ·cases h3
section rules
variable {C : Cx} {ops : Array Oper} {Q : Exit → Act → World → Prop} {l : List Nat} {E : Env} {H R : Heap} {i d : Nat} {ty : TypeId} {Zo : String} {af : Array Edge} {g : Option (Nat × Bool)}
theorem eqsT_run {P:Program}{t:TypeId}{ks:List IntKind}{us ws:List Int}(h:eqsT P t ks=true)(ha:us.length=ks.length)(hb:ws.length=ks.length)(w:World) :
    (Op.equal t (.agg ((ks.zip us).map fun p=>Value.int p.1 p.2).toArray) (.agg ((ks.zip ws).map fun p=>Value.int p.1 p.2).toArray)).run P w=.ok (decide (us=ws)) w:=by
  simp only [eqsT,Bool.and_eq_true,Bool.not_eq_true'] at h
  obtain ⟨⟨h1,h2⟩,h3⟩:=h
  split at h1
  · rename_i fs hfs
    have hf:P.fieldsOf t=fs:=by simp [Program.fieldsOf,hfs]
    have key:∀ (cs:List Int),cs.length=ks.length→∀ i,i<ks.length→(((ks.zip cs).map fun p=>Value.int p.1 p.2).toArray)[0+i]?=some (.int (ks.getD i .i64) (cs.getD i 0)):=fun cs hc i hi=>by
      have e1:ks[i]?=some (ks.getD i .i64):=by simp [List.getD_eq_getElem?_getD,hi]
      have e2:cs[i]?=some (cs.getD i 0):=by simp [List.getD_eq_getElem?_getD,hc,hi]
      rw [Nat.zero_add,List.getElem?_toArray,List.getElem?_map,List.zip,List.getElem?_zipWith,e1,e2]
      rfl
    show (Op.equalIn (9999+1) t _ _).run P w=_
    rw [run_equalIn_agg w 9999 t _ _ (by rw [hf];exact hfs) h2,hf]
    exact Zfn (n:=9998) fs.toList ks 0 us ws h1 ha hb fun i hi=>⟨key us ha i hi,key ws hb i hi⟩
  ·cases h1
end rules
end Go.Acq
namespace Go.Acq
open Go Go.RowKit
section
variable {α : Type} {w0 w : World} {M M' : List Nat} {f : α → List Value} {s n c : Nat} {base : Option Addr} {xs ys : List α} {ob : Option Nat} {j : List Value} {H Hm R : Heap} {T' : TypeId} {fr : Nat × Nat}
end
section rules
variable {C : Cx} {ops : Array Oper} {Q : Exit → Act → World → Prop} {l : List Nat} {E : Env} {H R : Heap} {i d : Nat} {ty : TypeId} {Zo : String} {af : Array Edge} {g : Option (Nat × Bool)}
end rules
end Go.Acq
namespace Go.Acq
end Go.Acq
namespace Go.Acq
open Go Go.RowKit
section
variable {α : Type} {q : IntKind} {f : α → Value} {k : Int × Int} {z v : α}
end
section
variable {P : Program} {w : World} {kt i : TypeId} {q : IntKind}
end
section rules
variable {C : Cx} {ops : Array Oper} {Q : Exit → Act → World → Prop} {l : List Nat} {E : Env} {H R : Heap} {i d : Nat} {ty : TypeId} {Zo : String} {af : Array Edge} {g : Option (Nat × Bool)}
variable {α : Type} {q : IntKind} {f : α → Value}
end rules
end Go.Acq
namespace Go.Acq
open Go Go.RowKit
section rules
variable {C : Cx} {ops : Array Oper} {Q : Exit → Act → World → Prop} {l : List Nat} {E : Env} {H R : Heap} {i d : Nat} {ty : TypeId} {Zo : String} {af : Array Edge} {g : Option (Nat × Bool)}
theorem Zcz {t:TypeId}{x:Operand}{b o k:Nat}{cs vs:List Value}(hc:HB C.w0 C.M b cs)(q0_:ops[i]?=some ⟨some d,.load t x,ty,Zo,af,g⟩∧Ya ops E g=true∧Nat.ble (d+1) C.n=true∧ev E x=some (.pointer (some ⟨b,o,none⟩))∧(cs.drop o).take k=vs∧vs.length=k)(hT:Va C.P t k=true)
    (kk:TO C ops Q l ((d,.agg vs.toArray)::E) H):TO C ops Q (i::l) E H:=have ⟨ho,hg,hd,hx,hv,hk⟩:=q0_;
  Z31 ho hg hd hx hT hk (fun w hi j v hj=>by
    rw [Addr.add_mid]
    subst hv
    rw [List.getElem?_take] at hj
    split at hj
    ·rw [List.getElem?_drop] at hj;exact hi.cell_old (hc.has (o+j) v hj) hc.far
    ·cases hj) kk
end rules
end Go.Acq
namespace Go.Acq
open Go Go.RowKit
section rules
variable {C : Cx} {ops : Array Oper} {Q : Exit → Act → World → Prop} {l : List Nat} {E : Env} {H R : Heap} {i d : Nat} {ty : TypeId} {Zo : String} {af : Array Edge} {g : Option (Nat × Bool)}
end rules
end Go.Acq
namespace Go.Acq
open Go Go.RowKit
section
variable {C : Cx} {ops : Array Oper} {Q : Exit → Act → World → Prop} {E : Env} {H : Heap}
end
end Go.Acq
namespace Go.Acq
open Go Go.RowKit
section
variable {α : Type} {ob : Option Nat} {base : Option Addr} {n c N C : Nat} {xs ys : List α} {w w0 : World} {M M' : List Nat} {H Hm R : Heap} {f : α → List Value} {j : List Value} {T' : TypeId} {fr : Nat × Nat}
end
section quiet
variable {C : Cx} {ops : Array Oper} {Q : Act → Prop} {l : List Nat} {E : Env} {H R : Heap} {i d : Nat} {ty : TypeId} {Zo : String} {af : Array Edge} {g : Option (Nat × Bool)}
end quiet
section rules
variable {C : Cx} {ops : Array Oper} {Q : Exit → Act → World → Prop} {l : List Nat} {E : Env} {H R : Heap} {i d : Nat} {ty : TypeId} {Zo : String} {af : Array Edge} {g : Option (Nat × Bool)}
end rules
end Go.Acq
namespace Go.Acq
open Go Go.RowKit Go.Proofs Go.Shelf
section
variable {P : Program} {ρ : Ren} {w w0 : World} {M : List Nat} {H R : Heap} {b : Nat} {T : TypeId} {cs : Array Value}
end
end Go.Acq
namespace Go.Acq
open Go Go.RowKit
section
variable {C : Cx} {ops : Array Oper} {Q : Exit → Act → World → Prop} {E : Env} {H : Heap}
end
end Go.Acq
namespace Go.Acq
open Go Go.RowKit
structure RowB where
  ob:Option Nat
  xs:List Int
  n:Nat
  c:Nat
  j:List Value
instance:Inhabited RowB:=⟨⟨none,[],0,0,[]⟩⟩
section
variable {C : Cx} {Q : Exit → Act → World → Prop} {E : Env} {H : Heap} {e : Exit} {code : Code}
end
section ends
variable {C : Cx} {E : Env} {H N : Heap}
end ends
section rules
variable {C : Cx} {ops : Array Oper} {Q : Exit → Act → World → Prop} {l : List Nat} {E : Env} {H R : Heap} {i d : Nat} {ty : TypeId} {Zo : String} {af : Array Edge} {g : Option (Nat × Bool)}
end rules
section draw
variable {C : Cx} {ops : Array Oper} {Q : Exit → Act → World → Prop} {E : Env} {H : Heap}
end draw
section ends
variable {C : Cx} {E : Env} {H H' N : Heap}
end ends
end Go.Acq
namespace Go.Acq
open Go Go.RowKit
section rules
variable {C : Cx} {ops : Array Oper} {Q : Act → Prop} {l : List Nat} {E : Env} {H R : Heap} {i d : Nat} {ty : TypeId} {Zo : String} {af : Array Edge} {g : Option (Nat × Bool)}
theorem Rs {t:TypeId}{x:Operand}{b o k:Nat}{cs vs:List Value}(hc:HB C.w0 C.M b cs)(q0_:ops[i]?=some ⟨some d,.load t x,ty,Zo,af,g⟩∧Ya ops E g=true∧Nat.ble (d+1) C.n=true∧ev E x=some (.pointer (some ⟨b,o,none⟩))∧(cs.drop o).take k=vs∧vs.length=k)(hT:Va C.P t k=true)
    (kk:TQ C ops Q l ((d,.agg vs.toArray)::E) H):TQ C ops Q (i::l) E H:=have ⟨ho,hg,hd,hx,hv,hk⟩:=q0_;
  Zd9 ho hg hd hx hT hk (fun w hi j v hj=>by
    rw [Addr.add_mid]
    subst hv
    rw [List.getElem?_take] at hj
    split at hj
    ·rw [List.getElem?_drop] at hj;exact hi.cell_old (hc.has (o+j) v hj) hc.far
    ·cases hj) kk
end rules
section ends
variable {C : Cx} {E : Env} {H N : Heap}
end ends
end Go.Acq
namespace Go.Acq
open Go Go.RowKit
def ptrT (P:Program)(t:TypeId):Bool:=match P.underlying t with
  | some (.pointer _)=>true
  | _=>false
theorem Zf3 {P:Program}{t:TypeId}(h:ptrT P t=true):∃ e,P.underlying t=some (.pointer e):=by
 unfold ptrT at h
 split at h
 ·exact ⟨_,by assumption⟩
 ·cases h
theorem Zdt {P:Program}(w:World)(n:Nat){t e:TypeId}(a:Option Addr)(ht:P.underlying t=some (.pointer e)):(Op.equalIn (n+1) t (.pointer a) (.pointer none)).run P w=.ok a.isNone w:=by
 cases a <;> simp [Op.equalIn,run_underlying ht]
theorem cellV {w0 w:World}{M:List Nat}{H:Heap}{ob:Option Nat}{n c:Nat}{p:Int}{xs:List Int}{j:List Value}{T:TypeId}{fr:Nat×Nat}(hz:ob=none→c=0)(hc:n≤c)(hn:xs.length=n)(hp:inb p xs.length)(hm:(ob,Obj.cells (arr (intC .i64) xs j).toArray T fr)∈H)(hi:Inv w0 M w H) :
    w.cell? (ea (sb ob) (p.toNat*1))=some (.int .i64 (xs.getD p.toNat 0)):=by
  obtain ⟨b,rfl⟩:=Gm hz hc hn hp
  have hb:=hi.own _ _ hm
  have:=Z1l (f:=intC .i64) (s:=1) (fun _=>rfl) 0 xs j p.toNat 0 (Kx hp) (by omega)
  show w.cell? (ea (some ⟨b,0,none⟩) (p.toNat*1))=_
  rw [Gr]
  simp only [World.cell?,hb,Option.isSome_none,Bool.false_eq_true,if_false,Nat.mul_one]
  simpa using this
theorem Z8l {w0 w:World}{M:List Nat}{H:Heap}{ob:Option Nat}{n c:Nat}{p:Int}{xs:List Int}{cs:Array Value}{T:TypeId}(hz:ob=none→c=0)(hc:n≤c)(hn:xs.length=n)(hp:inb p xs.length)(hm:(ob,Obj.cells cs T (0,0))∈H)(hi:Inv w0 M w H):w.frozen? (ea (sb ob) (p.toNat*1))=false:=by
 obtain ⟨b,rfl⟩:=Gm hz hc hn hp
 have hb:=hi.own _ _ hm
 show w.frozen? (ea (some ⟨b,0,none⟩) (p.toNat*1))=_
 rw [Gr]
 simp [World.frozen?,hb]
theorem setV {w0 w:World}{M:List Nat}{H R:Heap}{ob:Option Nat}{n c:Nat}{p v:Int}{xs:List Int}{j:List Value}{T:TypeId}(hz:ob=none→c=0)(hc:n≤c)(hn:xs.length=n)(hp:inb p xs.length)(ht:Take (ob,Obj.cells (arr (intC .i64) xs j).toArray T (0,0)) H R)(hi:Inv w0 M w H) :
    Inv w0 M (w.setCell (ea (sb ob) (p.toNat*1)) (.int .i64 v)) ((ob,Obj.cells (arr (intC .i64) (xs.set p.toNat v) j).toArray T (0,0))::R):=by
  obtain ⟨b,rfl⟩:=Gm hz hc hn hp
  have hb:=hi.own _ _ ht.mem
  have hs:=Z7e (f:=intC .i64) (s:=1) (fun _=>rfl) v j xs p.toNat (Kx hp)
  have e:w.setCell (ea (sb (some b)) (p.toNat*1)) (.int .i64 v)=w.setRow b ((arr (intC .i64) xs j).toArray.setIfInBounds p.toNat (.int .i64 v)):=by
    show w.setCell (ea (some ⟨b,0,none⟩) (p.toNat*1)) (.int .i64 v)=_
    rw [Gr,Nat.mul_one]
    simp only [World.setCell,World.setRow]
    congr 1
    apply Array.ext_getElem?
    intro k
    simp only [Array.getElem?_modify]
    by_cases hk:b=k
    ·subst hk;simp [hb]
    ·rw [if_neg hk,if_neg hk]
  rw [e]
  have h2:(arr (intC .i64) xs j).toArray.setIfInBounds p.toNat (.int .i64 v)=(arr (intC .i64) (xs.set p.toNat v) j).toArray:=by
    have hl:=Kx hp
    rw [List.setIfInBounds_toArray]
    congr 1
    rw [←hs]
    simp only [Nat.mul_one]
    rw [List.set_eq_take_append_cons_drop,if_pos (by rw [arr,List.length_append,Nm (f:=intC .i64) (s:=1) (fun _=>rfl)];omega)]
    simp [intC]
  rw [h2]
  exact hi.setRow ht
theorem Zea {P:Program}{a:Act}{o:Option Tmp}{ty:TypeId}{Zo:String}{af:Array Edge}{g:Option (Nat×Bool)}{x y:Operand}{f:FuncId}{at':Array TypeId}{v1 v2:Value}{w:World}{r:Result Next}(hx:a.eval x=v1)(hy:a.eval y=v2)(h:(callFunc f #[v1,v2]).run P w=r) :
    (execOp a.eval ⟨o,.call ⟨.value (.func f),#[x,y],at'⟩,ty,Zo,af,g⟩).run P w=r:=by
  have e:a.eval (.func f)=.func (.func f) #[] #[]:=rfl
  simp [execOp,resolve,Deferred.ofValue,invoke,hx,hy,e,h]
theorem Zen {P:Program}{a:Act}{o:Option Tmp}{ty:TypeId}{Zo:String}{af:Array Edge}{g:Option (Nat×Bool)}{x y z:Operand}{f:FuncId}{at':Array TypeId}{v1 v2 v3:Value}{w:World}{r:Result Next}(hx:a.eval x=v1)(hy:a.eval y=v2)(hz:a.eval z=v3)(h:(callFunc f #[v1,v2,v3]).run P w=r) :
    (execOp a.eval ⟨o,.call ⟨.value (.func f),#[x,y,z],at'⟩,ty,Zo,af,g⟩).run P w=r:=by
  have e:a.eval (.func f)=.func (.func f) #[] #[]:=rfl
  simp [execOp,resolve,Deferred.ofValue,invoke,hx,hy,hz,e,h]
section rules
variable {C : Cx} {ops : Array Oper} {Q : Exit → Act → World → Prop} {l : List Nat} {E : Env} {H R : Heap} {i d : Nat} {ty : TypeId} {Zo : String} {af : Array Edge} {g : Option (Nat × Bool)}
theorem Ly {t t2:TypeId}{x y:Operand}{a:Option Addr}{b:Bool}(q0_:ops[i]?=some ⟨some d,.binOp .eql t x y t2,ty,Zo,af,g⟩∧Ya ops E g=true∧Nat.ble (d+1) C.n=true∧ev E x=some (.pointer a)∧ev E y=some (.pointer none)∧a.isNone=b)(ht:ptrT C.P t=true)(kk:TO C ops Q l ((d,.bool b)::E) H):TO C ops Q (i::l) E H:=have ⟨ho,hg,hd,hx,hy,hb⟩:=q0_;
  TO.val ho hg hd (by simp) (fun a' w hf _=>by
    obtain ⟨e,he⟩:=Zf3 ht
    have:=Zdi (Z73 fun q=>Zdt (P:=C.P) w q a he) rfl
    rw [hb] at this
    simp only [execOp,hf.ev hx,hf.ev hy,eqGuard_at_pointer]
    simp [this]) kk
theorem Z77 {t t2:TypeId}{x y:Operand}{a:Option Addr}{b:Bool}(q0_:ops[i]?=some ⟨some d,.binOp .neq t x y t2,ty,Zo,af,g⟩∧Ya ops E g=true∧Nat.ble (d+1) C.n=true∧ev E x=some (.pointer a)∧ev E y=some (.pointer none)∧a.isNone=!b)(ht:ptrT C.P t=true)(kk:TO C ops Q l ((d,.bool b)::E) H):TO C ops Q (i::l) E H:=have ⟨ho,hg,hd,hx,hy,hb⟩:=q0_;
  TO.val ho hg hd (by simp) (fun a' w hf _=>by
    obtain ⟨e,he⟩:=Zf3 ht
    have:=Zbt (Z73 fun q=>Zdt (P:=C.P) w q a he) rfl
    rw [hb,Bool.not_not] at this
    simp only [execOp,hf.ev hx,hf.ev hy,eqGuard_at_pointer]
    simp [this]) kk
def Rg (P:Program)(f:FuncId)(e:Array Value→Sem Value):Prop :=
  ∃ fn,P.funcs[f]?=some fn∧(fn.name== "runtime.NumGoroutine")=false∧fn.body.isNone=true∧Extern.findNext fn=none∧Extern.find fn=some e
theorem TO.atLd {x:Operand}{f:FuncId}{at':Array TypeId}{ad:Addr}{v:Int}(hF:Rg C.P f (Extern.Atomic.loadT (.int .i64)))(ho:ops[i]?=some ⟨some d,.call ⟨.value (.func f),#[x],at'⟩,ty,Zo,af,g⟩)(hg:Ya ops E g=true)(hd:Nat.ble (d+1) C.n=true)
    (hx:ev E x=some (.pointer (some ad)))(hc:∀ w,Inv C.w0 C.M w H→w.cell? ad=some (.int .i64 v))(kk:TO C ops Q l ((d,.int .i64 v)::E) H):TO C ops Q (i::l) E H :=
  TO.val ho hg hd (by simp) (fun a w hf hi=>by
    obtain ⟨fn,h1,h2,h3,h4,h5⟩:=hF
    have:=run_call_load (w:=w) h1 h2 h3 h4 .i64 h5 (hc w hi)
    have e:a.eval (.func f)=.func (.func f) #[] #[]:=rfl
    simp [execOp,resolve,Deferred.ofValue,invoke,hf.ev hx,e,this]) kk
variable {x y z : Operand} {f : FuncId} {at' : Array TypeId} {ob : Option Nat} {n c : Nat} {p v u : Int} {xs : List Int} {j : List Value} {T : TypeId}
theorem TO.atStV (hF:Rg C.P f Extern.Atomic.storeT)(hz:ob=none→c=0)(hc:n≤c)(hn:xs.length=n)(hp:inb p xs.length)(q0_:ops[i]?=some ⟨some d,.call ⟨.value (.func f),#[x,y],at'⟩,ty,Zo,af,g⟩∧Ya ops E g=true∧Nat.ble (d+1) C.n=true∧ev E x=some (.pointer (some (ea (sb ob) (p.toNat*1))))∧ev E y=some (.int .i64 v))(ht:Take (ob,Obj.cells (arr (intC .i64) xs j).toArray T (0,0)) H R)
    (kk:TO C ops Q l ((d,.tuple #[])::E) ((ob,Obj.cells (arr (intC .i64) (xs.set p.toNat v) j).toArray T (0,0))::R)):TO C ops Q (i::l) E H:=have ⟨ho,hg,hd,hx,hy⟩:=q0_;
  Z0k ho hg (by simp) fun a w hf hi=>by
    obtain ⟨fn,h1,h2,h3,h4,h5⟩:=hF
    have:=run_call_store (k:=.i64) (y:=v) h1 h2 h3 h4 h5 (cellV hz hc hn hp ht.mem hi) (Z8l hz hc hn hp ht.mem hi)
    rw [Zea (hf.ev hx) (hf.ev hy) this]
    exact kk _ _ (hf.put hd _) (setV hz hc hn hp ht hi)
theorem Zjn (hF:Rg C.P f (Extern.Atomic.update (Op.intArith .add) .i64 true))(hz:ob=none→c=0)(hc:n≤c)(hn:xs.length=n)(hp:inb p xs.length)(q0_:ops[i]?=some ⟨some d,.call ⟨.value (.func f),#[x,y],at'⟩,ty,Zo,af,g⟩∧Ya ops E g=true∧Nat.ble (d+1) C.n=true∧ev E x=some (.pointer (some (ea (sb ob) (p.toNat*1))))∧ev E y=some (.int .i64 v))(ht:Take (ob,Obj.cells (arr (intC .i64) xs j).toArray T (0,0)) H R)
    (kk:TO C ops Q l ((d,.int .i64 (IntKind.i64.wrap (xs.getD p.toNat 0+v)))::E) ((ob,Obj.cells (arr (intC .i64) (xs.set p.toNat (IntKind.i64.wrap (xs.getD p.toNat 0+v))) j).toArray T (0,0))::R)):TO C ops Q (i::l) E H:=have ⟨ho,hg,hd,hx,hy⟩:=q0_;
  Z0k ho hg (by simp) fun a w hf hi=>by
    obtain ⟨fn,h1,h2,h3,h4,h5⟩:=hF
    have:=run_call_add h1 h2 h3 h4 .i64 h5 (y:=v) (s:=IntKind.i64.wrap (xs.getD p.toNat 0+v)) (cellV hz hc hn hp ht.mem hi) (Z8l hz hc hn hp ht.mem hi) rfl
    rw [Zea (hf.ev hx) (hf.ev hy) this]
    exact kk _ _ (hf.put hd _) (setV hz hc hn hp ht hi)
theorem set_same {α:Type}{xs:List α}{k:Nat}{d v:α}(hk:k<xs.length)(h:xs.getD k d=v):xs.set k v=xs:=by
 subst h
 apply List.ext_getElem?
 intro i
 rw [List.getElem?_set]
 by_cases e:k=i
 ·subst e;rw [if_pos rfl,if_pos hk,List.getElem?_eq_getElem hk,List.getD_eq_getElem?_getD,List.getElem?_eq_getElem hk];rfl
 ·rw [if_neg e]
theorem Zk1 (hF:Rg C.P f (Extern.Atomic.casT (.int .i64)))(hz:ob=none→c=0)(hc:n≤c)(hn:xs.length=n)(hp:inb p xs.length)(q0_:ops[i]?=some ⟨some d,.call ⟨.value (.func f),#[x,y,z],at'⟩,ty,Zo,af,g⟩∧Ya ops E g=true∧Nat.ble (d+1) C.n=true∧ev E x=some (.pointer (some (ea (sb ob) (p.toNat*1))))∧ev E y=some (.int .i64 v)∧ev E z=some (.int .i64 u))(ht:Take (ob,Obj.cells (arr (intC .i64) xs j).toArray T (0,0)) H R)
    (kk:TO C ops Q l ((d,.bool (decide (xs.getD p.toNat 0=v)))::E) ((ob,Obj.cells (arr (intC .i64) (xs.set p.toNat (if xs.getD p.toNat 0=v then u else xs.getD p.toNat 0)) j).toArray T (0,0))::R)):TO C ops Q (i::l) E H:=have ⟨ho,hg,hd,hx,hy,hz'⟩:=q0_;
  Z0k ho hg (by simp) fun a w hf hi=>by
    obtain ⟨fn,h1,h2,h3,h4,h5⟩:=hF
    have hcell:=cellV hz hc hn hp ht.mem hi
    by_cases hv:xs.getD p.toNat 0=v
    · have := run_call_cas_hit h1 h2 h3 h4 .i64 h5 (y := u) hcell (Z8l hz hc hn hp ht.mem hi)
      rw [hv] at this
      rw [Zen (hf.ev hx) (hf.ev hy) (hf.ev hz') this]
      rw [decide_eq_true hv,if_pos hv] at kk
      exact kk _ _ (hf.put hd _) (setV hz hc hn hp ht hi)
    · have := run_call_cas_miss h1 h2 h3 h4 .i64 h5 (y := u) hcell (Z8l hz hc hn hp ht.mem hi) hv
      rw [Zen (hf.ev hx) (hf.ev hy) (hf.ev hz') this]
      rw [decide_eq_false hv,if_neg hv,set_same (Kx hp) rfl] at kk
      exact kk _ _ (hf.put hd _) (hi.perm ht)
end rules
section rules
variable {C : Cx} {ops : Array Oper} {Q : Exit → Act → World → Prop} {l : List Nat} {E : Env} {H R : Heap} {i d : Nat} {ty : TypeId} {Zo : String} {af : Array Edge} {g : Option (Nat × Bool)}
end rules
end Go.Acq
namespace Go.Acq
open Go Go.RowKit
section rules
variable {C : Cx} {ops : Array Oper} {Q : Exit → Act → World → Prop} {l : List Nat} {E : Env} {H R : Heap} {i d : Nat} {ty : TypeId} {Zo : String} {af : Array Edge} {g : Option (Nat × Bool)}
theorem Z6i {t T':TypeId}{x y:Operand}{b o k:Nat}{cs vs cs':List Value}(q0_:ops[i]?=some ⟨none,.store t x y,ty,Zo,af,g⟩∧Ya ops E g=true∧ev E x=some (.pointer (some ⟨b,o,none⟩))∧ev E y=some (.agg vs.toArray))(ht:Take (some b,.cells cs.toArray T' (0,0)) H R)
    (hs:Xc C.P t=some k)(q1_:vs.length=k∧Nat.ble (o+k) cs.length=true∧vs.all (·.oneCell')=true∧cs.take o++vs++cs.drop (o+k)=cs')
    (kk:TO C ops Q l E ((some b,.cells cs'.toArray T' (0,0))::R)):TO C ops Q (i::l) E H:=have ⟨ho,hg,hx,hy⟩:=q0_;have ⟨hk,hfit,h1,hcs⟩:=q1_;
  Z63 (vs:=vs) ho hg hx hy ht (by simp [Value.cells]) (by rw [hk];exact hs) (fun u hu=>List.all_eq_true.1 h1 u hu) (by have:=Nat.le_of_ble_eq_true hfit;simp;omega) (by
    rw [hk,←hcs]) kk
theorem Vf {t e:TypeId}{x y:Operand}{cs:List Value}{k:IntKind}{p:Int}{q n:Nat}{v:Value}(hp:p=(q:Int))(q0_:ops[i]?=some ⟨some d,.index t x y,ty,Zo,af,g⟩∧Ya ops E g=true∧Nat.ble (d+1) C.n=true∧ev E x=some (.agg cs.toArray)∧ev E y=some (.int k p))(hT:C.P.underlying t=some (.array n e))(hs:Wj C.P e=true)(hq:Nat.ble (q+1) n=true)(hv:cs[q]?=some v)
    (kk:TO C ops Q l ((d,v)::E) H):TO C ops Q (i::l) E H:=by
  obtain ⟨ho,hg,hd,hx,hy⟩:=q0_
  subst hp
  have h1:=Nat.le_of_ble_eq_true hq
  refine TO.val ho hg hd (by simp) (fun a w hf _=>?_) kk
  simp [execOp,hf.ev hx,hf.ev hy,Instr.index,asIntOf,run_underlying hT,Lq (Zp9 hs),part,Zhl hs,hv]
  omega
theorem Z5w {t e:TypeId}{x y:Operand}{b n c q:Nat}{k:IntKind}{p:Int}(hp:p=(q:Int))(q0_:ops[i]?=some ⟨some d,.indexAddr t x y,ty,Zo,af,g⟩∧Ya ops E g=true∧Nat.ble (d+1) C.n=true∧ev E x=some (.slice (some ⟨b,0,none⟩) n c)∧ev E y=some (.int k p)∧Nat.ble (q+1) n=true)(ht:Wm C.P t=some e)(hs:Xc C.P e=some 1)
    (kk:TO C ops Q l ((d,.pointer (some ⟨b,q,none⟩))::E) H):TO C ops Q (i::l) E H:=by
  obtain ⟨ho,hg,hd,hx,hy,hq⟩:=q0_
  subst hp
  have h1:=Nat.le_of_ble_eq_true hq
  exact Zey ho hg hd hx hy ht hs (by omega) (by omega) (by simpa using kk)
theorem run_eqFn {P:Program}(w:World)(n:Nat){t:TypeId}{ps rs:Array TypeId}{vd:Bool}(ht:P.underlying t=some (.func ps rs vd))(f:Fn)(x y:Array Value):(Op.equalIn (n+1) t (.func f x y) .nilFunc).run P w=.ok false w:=by
 simp [Op.equalIn,run_underlying ht]
def funcT (P:Program)(t:TypeId):Bool:=match P.underlying t with
  | some (.func _ _ _)=>true
  | _=>false
theorem funcT_eq {P:Program}{t:TypeId}(h:funcT P t=true):∃ ps rs vd,P.underlying t=some (.func ps rs vd):=by
 unfold funcT at h
 split at h
 ·rename_i ps rs vd e;exact ⟨ps,rs,vd,e⟩
 ·cases h
theorem Z56 {t t2:TypeId}{x y:Operand}{f:Fn}{u v:Array Value}(q0_:ops[i]?=some ⟨some d,.binOp .neq t x y t2,ty,Zo,af,g⟩∧Ya ops E g=true∧Nat.ble (d+1) C.n=true∧ev E x=some (.func f u v)∧ev E y=some .nilFunc)(ht:funcT C.P t=true)(kk:TO C ops Q l ((d,.bool true)::E) H):TO C ops Q (i::l) E H:=have ⟨ho,hg,hd,hx,hy⟩:=q0_;
  TO.val ho hg hd (by simp) (fun a' w hf _=>by
    obtain ⟨ps,rs,vd,he⟩:=funcT_eq ht
    have:=Zbt (Z73 fun q=>run_eqFn (P:=C.P) w q he f u v) rfl
    simp only [execOp,hf.ev hx,hf.ev hy,eqGuard_at_func]
    simp [this]) kk
theorem TO.atLdR {x:Operand}{f:FuncId}{at':Array TypeId}{base:Option Addr}{n c:Nat}{p:Int}{xs:List Int}(hF:Rg C.P f (Extern.Atomic.loadT (.int .i64)))(hr:RS C.w0 C.M (intC .i64) 1 base n c xs)(hp:inb p xs.length)
    (q0_:ops[i]?=some ⟨some d,.call ⟨.value (.func f),#[x],at'⟩,ty,Zo,af,g⟩∧Ya ops E g=true∧Nat.ble (d+1) C.n=true∧ev E x=some (.pointer (some (ea base (p.toNat*1)))))(kk:TO C ops Q l ((d,.int .i64 (xs.getD p.toNat 0))::E) H):TO C ops Q (i::l) E H:=have ⟨ho,hg,hd,hx⟩:=q0_;
  TO.atLd hF ho hg hd hx (fun w hi=>by
    have:=(hr.ro.monoM hr.far hi).at 0 (o:=p.toNat) (c:=0) (Kx hp) (by omega)
    simpa using this) kk
end rules
end Go.Acq
namespace Go.Acq
open Go Go.RowKit
def Na (P:Program)(ops:Array Oper)(Qn:Act→Prop):List Nat→Act→Prop
  | [],a=>Qn a
  | i::rest,a=>match ops[i]? with
    | none=>Na P ops Qn rest a
    | some o=>(∀ c,o.op≠.defer c)∧(∀ cs b,o.op≠.select cs b) ∧
        if Region.wanted o (yielded ops a.tmps)=true then ∃ v,(∀ w,(execOp a.eval o).run P w=.ok (.value v) w)∧Na P ops Qn rest (a.put o.dst v)
        else Na P ops Qn rest (a.put o.dst undef)
def TU (C:Cx)(ops:Array Oper)(Qn:Act→Prop)(l:List Nat)(E:Env):Prop:=∀ a,Fits C.n C.D E a→Na C.P ops Qn l a
def setB (ops:Array Oper)(m:Nat):List Nat→List Nat→Bool
  | _,[]=>true
  | pre,i::l=>Nat.blt i m&&!(pre.any (Nat.beq i))&&(match ops[i]? with
    | none=>false
    | some o=>(match o.dst with | some d=>(List.range m).all fun j=>Nat.beq j i||!(Xi ops j==some d) | none=>false) &&
        (o.looksAt ops).all fun t=>(List.range m).all fun j=>!(Xi ops j==some t)||(pre.any (Nat.beq j)&&Vh ops ops.size i j))&&setB ops m (i::pre) l
section
variable {C : Cx} {ops : Array Oper} {Q : Exit → Act → World → Prop} {E : Env} {H : Heap}
def Xt (ops:Array Oper)(vs:Nat→Value):List Nat→Act→Act
  | [],a=>a
  | i::l,a=>Xt ops vs l (a.put (Xi ops i) (vs i))
theorem Z4m {vs:Nat→Value}:∀ (l l':List Nat) (a:Act),Xt ops vs (l++l') a=Xt ops vs l' (Xt ops vs l a)
 | [],_,_=>rfl
 | i::l,l',a=>by simp only [List.cons_append,Xt];exact Z4m l l' _
theorem Z1h {vs vs':Nat→Value}:∀ (l:List Nat) (a:Act),(∀ i,i∈l→vs i=vs' i)→Xt ops vs l a=Xt ops vs' l a
 | [],_,_=>rfl
 | i::l,a,h=>by simp only [Xt];rw [h i (.head _)];exact Z1h l _ fun j hj=>h j (.tail _ hj)
def StepQ (P:Program)(ops:Array Oper)(K:World→Prop)(vs:Nat→Value)(i:Nat)(a:Act):Prop :=
  ∃ o,ops[i]?=some o∧(∀ c,o.op≠.defer c)∧(∀ cs b,o.op≠.select cs b) ∧
    ((Region.wanted o (yielded ops a.tmps)=true∧∀ w,K w→Gv P K w (vs i) ((execOp a.eval o).run P w))∨(Region.wanted o (yielded ops a.tmps)=false∧vs i=undef))
def StepU (P:Program)(ops:Array Oper)(vs:Nat→Value)(i:Nat)(a:Act):Prop :=
  ∃ o,ops[i]?=some o∧(∀ c,o.op≠.defer c)∧(∀ cs b,o.op≠.select cs b) ∧
    ((Region.wanted o (yielded ops a.tmps)=true∧∀ w,(execOp a.eval o).run P w=.ok (.value (vs i)) w)∨(Region.wanted o (yielded ops a.tmps)=false∧vs i=undef))
theorem StepU.q {P:Program}{K:World→Prop}{vs:Nat→Value}{i:Nat}{a:Act}(h:StepU P ops vs i a):StepQ P ops K vs i a:=by
 obtain ⟨o,h1,h2,h3,h4⟩:=h
 refine ⟨o,h1,h2,h3,h4.imp (fun h=>⟨h.1,fun w _=>?_⟩) id⟩
 rw [h.2 w];exact ⟨rfl,rfl⟩
theorem Zbl {P:Program}{K:World→Prop}{Qn:Act→Prop}:∀ (l:List Nat) (a:Act),l.Nodup→(∀ i,i∈l→∃ o,ops[i]?=some o)→Jw P ops K Qn l a →
    ∃ vs:Nat→Value,(∀ pre i post,l=pre++i::post→StepQ P ops K vs i (Xt ops vs pre a))∧Qn (Xt ops vs l a)
  | [],a,_,_,h=>⟨fun _=>undef,fun pre i post e=>by simp at e,h⟩
  | i::l,a,hn,ho,h=>by
    obtain ⟨o,hoi⟩:=ho i (.head _)
    simp only [Jw,hoi] at h
    obtain ⟨hd,hs,h⟩:=h
    have hslot:Xi ops i=o.dst:=by simp [Xi,hoi]
    obtain ⟨v,hv,hr⟩:∃ v,((Region.wanted o (yielded ops a.tmps)=true∧∀ w,K w→Gv P K w v ((execOp a.eval o).run P w))∨(Region.wanted o (yielded ops a.tmps)=false∧v=undef))∧Jw P ops K Qn l (a.put o.dst v):=by
      by_cases hw:Region.wanted o (yielded ops a.tmps)=true
      ·rw [if_pos hw] at h;obtain ⟨v,h1,h2⟩:=h;exact ⟨v,.inl ⟨hw,h1⟩,h2⟩
      ·rw [if_neg hw] at h;exact ⟨undef,.inr ⟨by simpa using hw,rfl⟩,h⟩
    have hn':=List.nodup_cons.1 hn
    obtain ⟨vs,g1,g2⟩:=Zbl l _ hn'.2 (fun j hj=>ho j (.tail _ hj)) hr
    let vs':Nat→Value:=fun j=>if j=i then v else vs j
    have ei:vs' i=v:=by simp [vs']
    have ee:∀ (l':List Nat) (b:Act),i∉l'→Xt ops vs' l' b=Xt ops vs l' b:=fun l' b hni=>Z1h l' b fun j hj=>by
      have:j≠i:=by rintro rfl;exact hni hj
      simp [vs',this]
    refine ⟨vs',fun pre j post e=>?_,?_⟩
    · cases pre with
      | nil=>simp only [List.nil_append,List.cons.injEq] at e;obtain ⟨rfl,rfl⟩:=e;exact ⟨o,hoi,hd,hs,by rw [ei];exact hv⟩
      | cons q pre =>
        simp only [List.cons_append,List.cons.injEq] at e
        obtain ⟨rfl,rfl⟩:=e
        have h1:=g1 pre j post rfl
        have hni:i∉pre:=fun hm=>hn'.1 (List.mem_append_left _ hm)
        have hji:j≠i:=by rintro rfl;exact hn'.1 (by simp)
        simp only [Xt]
        rw [ei,hslot,ee pre _ hni]
        obtain ⟨o',a1,a2,a3,a4⟩:=h1
        have evj:vs' j=vs j:=by simp [vs',hji]
        exact ⟨o',a1,a2,a3,by rw [evj];exact a4⟩
    ·simp only [Xt];rw [ei,hslot,ee l _ hn'.1];exact g2
theorem Zd1 {P:Program}{Qn:Act→Prop}:∀ (l:List Nat) (a:Act),l.Nodup→(∀ i,i∈l→∃ o,ops[i]?=some o)→Na P ops Qn l a →
    ∃ vs:Nat→Value,(∀ pre i post,l=pre++i::post→StepU P ops vs i (Xt ops vs pre a))∧Qn (Xt ops vs l a)
  | [],a,_,_,h=>⟨fun _=>undef,fun pre i post e=>by simp at e,h⟩
  | i::l,a,hn,ho,h=>by
    obtain ⟨o,hoi⟩:=ho i (.head _)
    simp only [Na,hoi] at h
    obtain ⟨hd,hs,h⟩:=h
    have hslot:Xi ops i=o.dst:=by simp [Xi,hoi]
    obtain ⟨v,hv,hr⟩:∃ v,((Region.wanted o (yielded ops a.tmps)=true∧∀ w,(execOp a.eval o).run P w=.ok (.value v) w)∨(Region.wanted o (yielded ops a.tmps)=false∧v=undef))∧Na P ops Qn l (a.put o.dst v):=by
      by_cases hw:Region.wanted o (yielded ops a.tmps)=true
      ·rw [if_pos hw] at h;obtain ⟨v,h1,h2⟩:=h;exact ⟨v,.inl ⟨hw,h1⟩,h2⟩
      ·rw [if_neg hw] at h;exact ⟨undef,.inr ⟨by simpa using hw,rfl⟩,h⟩
    have hn':=List.nodup_cons.1 hn
    obtain ⟨vs,g1,g2⟩:=Zd1 l _ hn'.2 (fun j hj=>ho j (.tail _ hj)) hr
    let vs':Nat→Value:=fun j=>if j=i then v else vs j
    have ei:vs' i=v:=by simp [vs']
    have ee:∀ (l':List Nat) (b:Act),i∉l'→Xt ops vs' l' b=Xt ops vs l' b:=fun l' b hni=>Z1h l' b fun j hj=>by
      have:j≠i:=by rintro rfl;exact hni hj
      simp [vs',this]
    refine ⟨vs',fun pre j post e=>?_,?_⟩
    · cases pre with
      | nil=>simp only [List.nil_append,List.cons.injEq] at e;obtain ⟨rfl,rfl⟩:=e;exact ⟨o,hoi,hd,hs,by rw [ei];exact hv⟩
      | cons q pre =>
        simp only [List.cons_append,List.cons.injEq] at e
        obtain ⟨rfl,rfl⟩:=e
        have h1:=g1 pre j post rfl
        have hni:i∉pre:=fun hm=>hn'.1 (List.mem_append_left _ hm)
        have hji:j≠i:=by rintro rfl;exact hn'.1 (by simp)
        simp only [Xt]
        rw [ei,hslot,ee pre _ hni]
        obtain ⟨o',a1,a2,a3,a4⟩:=h1
        have evj:vs' j=vs j:=by simp [vs',hji]
        exact ⟨o',a1,a2,a3,by rw [evj];exact a4⟩
    ·simp only [Xt];rw [ei,hslot,ee l _ hn'.1];exact g2
theorem Zca {m:Nat}{vs:Nat→Value}{a0:Act}:∀ (l:List Nat) (done:Nat→Bool) (a:Act),(∀ i,i∈l→i<m∧∃ d,Xi ops i=some d∧∀ j,j<m→j≠i→Xi ops j≠some d) →
    DoneQ ops m vs a0 done a→DoneQ ops m vs a0 (fun q=>done q||l.any (Nat.beq q)) (Xt ops vs l a)
  | [],done,a,_,h=>by simpa [Xt] using h
  | i::l,done,a,hu,h=>by
    obtain ⟨hi,d,hd,hud⟩:=hu i (.head _)
    have h1:=h.put hi hd hud
    have h2:=Zca l _ _ (fun j hj=>hu j (.tail _ hj)) h1
    simp only [Xt]
    rw [hd]
    have e:(fun q:Nat=>(if q=i then true else done q)||l.any (Nat.beq q))=fun q=>done q||(i::l).any (Nat.beq q):=by
      funext q
      by_cases c:q=i
      ·subst c;simp
      · have : Nat.beq q i = false := by
          cases hb:Nat.beq q i with
          | true=>exact absurd (Nat.eq_of_beq_eq_true hb) c
          | false=>rfl
        simp [c,this]
    rw [←e];exact h2
theorem DoneQ.eq {m:Nat}{vs:Nat→Value}{a0 a b:Act}{da db:Nat→Bool}(hA:DoneQ ops m vs a0 da a)(hB:DoneQ ops m vs a0 db b)(ha:∀ j,j<m→da j=true)(hb:∀ j,j<m→db j=true):a=b:=by
 have e1:a.tmps=b.tmps:=by
  apply Array.ext_getElem?
  intro t
  by_cases c:∃ j,j<m∧Xi ops j=some t
  ·
   obtain ⟨j,hj,hsj⟩:=c
   by_cases hlt:t<a0.tmps.size
   ·rw [hA.has j t hj (ha j hj) hsj hlt,hB.has j t hj (hb j hj) hsj hlt]
   ·rw [Array.getElem?_eq_none (by rw [hA.size];omega),Array.getElem?_eq_none (by rw [hB.size];omega)]
  ·
   have hn:∀ j,j<m→Xi ops j≠some t:=fun j hj hsj=>c ⟨j,hj,hsj⟩
   rw [hA.old t fun j hj _=>hn j hj,hB.old t fun j hj _=>hn j hj]
 have e2:a.defers=b.defers:=by rw [hA.defers,hB.defers]
 cases a;cases b;simp_all
theorem DoneQ.congr {m:Nat}{vs vs':Nat→Value}{a0 a:Act}{da:Nat→Bool}(h:DoneQ ops m vs a0 da a)(he:∀ j,j<m→da j=true→vs j=vs' j):DoneQ ops m vs' a0 da a :=
 ⟨h.size,h.defers,fun j d hj hd hs hl=>by rw [←he j hj hd];exact h.has j d hj hd hs hl,h.old⟩
theorem Zi8 {F:Fence}{P:Program}{i:Nat}{o:Oper}{a b:Act}{w:World}{k1 k2:Act→World→Prop}{f:FuncId}{vs:Array Value}(hF:∀ f,F.fn f)(ho:ops[i]?=some o)(hnd:∀ c,o.op≠.defer c)(hex:execOp a.eval o=execOp b.eval o)
    (hw:Region.wanted o (yielded ops a.tmps)=Region.wanted o (yielded ops b.tmps))(hr:(execOp b.eval o).run P w=.ok (.enter f vs) w)(hk:∀ v w',k1 (b.put o.dst v) w'→k2 (a.put o.dst v) w')
    (h:wpOpIn F 0 P ops (fun _ _ _=>False) i k1 b w):wpOpIn F 0 P ops Q i k2 a w:=by
  unfold wpOpIn at h ⊢
  rw [ho] at h ⊢
  simp only at h ⊢
  rw [hw]
  split
  · rename_i hwt
    simp only [hwt,if_true] at h
    refine ⟨fun f _=>hF f,?_⟩
    have h:=h.2
    rw [Oper.semAt_eq _ _ _ hnd] at h ⊢
    rw [hex]
    rw [hr] at h ⊢
    rw [Oper.uponIn_enter] at h ⊢
    refine ⟨h.1,CallsIn.mono h.2 fun e w'' he=>?_⟩
    cases e
    ·exact hk _ _ he
    ·exact he.elim
    ·obtain ⟨_,_,h⟩:=he;exact h.elim
  · rename_i hwt
    simp only [hwt,if_false,Bool.false_eq_true] at h
    exact ⟨fun f _=>hF f,hk _ _ h.2⟩
def callB (P:Program)(ops:Array Oper)(c:Nat):Bool:=match ops[c]? with
  | some ⟨some _,.call ⟨.value (.func f),_,_⟩,_,_,_,_⟩=>Yc P f
  | _=>false
theorem Zpq {P:Program}{c:Nat}{a:Act}{w:World}(h:callB P ops c=true):∃ o f vs,ops[c]?=some o∧(∀ c,o.op≠.defer c)∧(∀ cs b,o.op≠.select cs b)∧(execOp a.eval o).run P w=.ok (.enter f vs) w:=by
 unfold callB at h
 split at h
 ·
  rename_i d f xs at' ty Zo af g ho
  refine ⟨_,f,xs.map a.eval,ho,by simp,by simp,?_⟩
  simp [execOp,resolve,Deferred.ofValue,invoke,Act.eval,Z3o h]
 ·cases h
theorem Zp7 (q:Nat):Nat.beq q q=true:=by simp
theorem any_mem {l:List Nat}{q:Nat}:l.any (Nat.beq q)=true↔q∈l:=by
 rw [List.any_eq_true]
 constructor
 ·rintro ⟨x,hx,h⟩;rw [Nat.eq_of_beq_eq_true h];exact hx
 ·intro h;exact ⟨q,h,Zp7 q⟩
theorem Z9k {m:Nat}:∀ {l pre:List Nat},setB ops m pre l=true→∀ p i post,l=p++i::post→i<m∧i∉pre∧i∉p∧∃ o d,ops[i]?=some o∧o.dst=some d∧Xi ops i=some d∧(∀ j,j<m→j≠i→Xi ops j≠some d) ∧
    ∀ t,t∈o.looksAt ops→∀ j,j<m→Xi ops j=some t→(j∈pre∨j∈p)∧Vh ops ops.size i j=true
  | [],pre,_,p,i,post,e=>by simp at e
  | q::l,pre,h,p,i,post,e=>by
    simp only [setB,Bool.and_eq_true] at h
    obtain ⟨⟨⟨h1,h2⟩,h3⟩,h4⟩:=h
    have hq:q∉pre:=fun hm=>by rw [any_mem.2 hm] at h2;simp at h2
    cases p with
    | nil =>
      simp only [List.nil_append,List.cons.injEq] at e
      obtain ⟨rfl,rfl⟩:=e
      refine ⟨by simpa using h1,hq,by simp,?_⟩
      cases ho:ops[q]? with
      | none=>rw [ho] at h3;simp at h3
      | some o =>
        rw [ho] at h3
        simp only [Bool.and_eq_true] at h3
        cases hd:o.dst with
        | none=>rw [hd] at h3;simp at h3
        | some d =>
          rw [hd] at h3
          refine ⟨o,d,rfl,hd,by simp [Xi,ho,hd],fun j hj hji he=>?_,fun t htl j hj hsj=>?_⟩
          · have h5 := List.all_eq_true.1 h3.1 j (List.mem_range.2 hj)
            simp only [Bool.or_eq_true] at h5
            rcases h5 with h5 | h5
            ·exact hji (Nat.eq_of_beq_eq_true h5)
            ·rw [he] at h5;simp at h5
          · have h5 := List.all_eq_true.1 (List.all_eq_true.1 h3.2 t htl) j (List.mem_range.2 hj)
            simp only [Bool.or_eq_true,Bool.and_eq_true] at h5
            rcases h5 with h5 | h5
            ·rw [hsj] at h5;simp at h5
            ·exact ⟨.inl (any_mem.1 h5.1),h5.2⟩
    | cons r p =>
      simp only [List.cons_append,List.cons.injEq] at e
      obtain ⟨rfl,rfl⟩:=e
      obtain ⟨a1,a2,a3,o,d,a4,a5,a6,a7,a8⟩:=Z9k h4 p i post rfl
      refine ⟨a1,fun hm=>a2 (.tail _ hm),fun hm=>?_,o,d,a4,a5,a6,a7,fun t ht j hj hs=>?_⟩
      · rcases List.mem_cons.1 hm with h | h
        ·exact a2 (h▸.head _)
        ·exact a3 h
      · obtain ⟨b1, b2⟩ := a8 t ht j hj hs
        refine ⟨?_,b2⟩
        rcases b1 with b1 | b1
        · rcases List.mem_cons.1 b1 with rfl | b1
          ·exact .inr (.head _)
          ·exact .inl b1
        ·exact .inr (.tail _ b1)
theorem Zct:∀ {l:List Nat},(∀ p i post,l=p++i::post→i∉p)→l.Nodup
 | [],_=>List.nodup_nil
 | i::l,h=>by
  refine List.nodup_cons.2 ⟨fun hm=>?_,Zct fun p j post e hj=>h (i::p) j post (by rw [e];rfl) (.tail _ hj)⟩
  obtain ⟨p,post,e⟩:=List.append_of_mem hm
  exact h (i::p) i post (by rw [e];rfl) (.head _)
def NQ (Q:Exit→Act→World→Prop):Exit→Act→World→Prop:=fun e a w=>match e with
  | .normal=>Q .normal a w
  | _=>False
theorem Rh (h:X C Q .normal E H):X C (NQ Q) .normal E H:=h
theorem Z9d (h:LetsOut (NQ Q)):False:=by obtain ⟨_,_,h⟩:=h;exact h
theorem Zhc {F:Fence}{n:Nat}{P:Program}{i:Nat}{k:Act→World→Prop}{a:Act}{w:World}(h:wpOpIn F n P ops (NQ Q) i k a w):wpOpIn F n P ops Q i k a w:=by
 unfold wpOpIn at h ⊢
 split
 ·rename_i ho;rw [ho] at h;exact h
 ·
  rename_i o ho
  rw [ho] at h
  simp only at h
  split
  ·
   rename_i hw
   rw [if_pos hw] at h
   unfold Oper.wpIn at h ⊢
   refine ⟨h.1,?_⟩
   have h:=h.2
   generalize (o.semAt F.round a.eval).run P w=r at h ⊢
   cases r with
   | ok x w' =>
    cases x <;> simp only [Oper.uponIn] at h ⊢ <;>
     first
      | exact h
      | exact ⟨h.1,CallsIn.mono h.2 (fun e w'' he=>by cases e <;> first | exact he | exact he.elim | exact (Z9d he).elim)⟩
      | exact ⟨h.1,RoundIn.mono h.2 (fun e w'' he=>by cases e <;> first | exact he | exact he.elim | exact (Z9d he).elim)⟩
   | halt x w'=>cases x <;> simp only [Oper.uponIn] at h ⊢ <;> first | exact h | exact h.elim | exact (Z9d h).elim
  ·
   rename_i hw
   rw [if_neg hw] at h
   exact h
theorem Z7g {id:Nat}(l1 l2:List Nat)(c m:Nat)(hm:C.P.follows .mixedOrders=true)(hb:Ni ops=true)(hsz:Nat.beq ops.size (m+1)=true)(s1:setB ops m [] (l1++l2)=true)(s2:setB ops m l1 [c]=true)
    (s3:(l1.all fun j=>Vh ops ops.size c j)=true)(s4:((List.range m).all fun j=>Vh ops ops.size m j)=true)(s5:((List.range m).all fun j=>Nat.beq j c||(l1++l2).any (Nat.beq j))=true)(s6:(!(l2.any (Nat.beq c)))=true)(s7:callB C.P ops c=true)
    (k:TQ C ops (fun a1=>Na C.P ops (fun a2=>∀ w,Inv C.w0 C.M w H→wpOpsIn (FW C.ρ) 0 C.P ops (NQ Q) [c,m] a2 w) l2 a1) l1 E H):T C (.region id ops true) Q E H:=by
  intro a0 w0 hf0 hi0
  have hsz:=Nat.eq_of_beq_eq_true hsz
  have g1:=fun p i post e=>Z9k (l:=l1++l2) s1 p i post e
  obtain ⟨hcm,hc1,-,oc,dc,hoc,hdc,hsc,huc,hlc⟩:=Z9k (l:=[c]) s2 [] c [] rfl
  have hc2:c∉l2:=fun h=>by rw [any_mem.2 h] at s6;simp at s6
  have hnd:(l1++l2).Nodup:=Zct fun p i post e=>(g1 p i post e).2.2.1
  have hops:∀ i,i∈l1++l2→i<m∧(∃ o,ops[i]?=some o)∧∃ d,Xi ops i=some d∧∀ j,j<m→j≠i→Xi ops j≠some d:=fun i hi=>by
    obtain ⟨p,post,e⟩:=List.append_of_mem hi
    obtain ⟨h1,-,-,o,d,h2,h3,h4,h5,-⟩:=g1 p i post e
    exact ⟨h1,⟨o,h2⟩,d,h4,h5⟩
  obtain ⟨hn1,hn2,hdis⟩:=List.nodup_append.1 hnd
  obtain ⟨vs1,hst1,hend1⟩:=Zbl l1 a0 hn1 (fun i hi=>(hops i (List.mem_append_left _ hi)).2.1) (k a0 hf0)
  obtain ⟨vs2,hst2,hend2⟩:=Zd1 l2 _ hn2 (fun i hi=>(hops i (List.mem_append_right _ hi)).2.1) hend1
  let vs:Nat→Value:=fun j=>if j∈l1 then vs1 j else vs2 j
  have ev1:∀ j,j∈l1→vs j=vs1 j:=fun j hj=>by simp [vs,hj]
  have ev2:∀ j,j∈l2→vs j=vs2 j:=fun j hj=>by
    have:j∉l1:=fun h=>hdis j h j hj rfl
    simp [vs,this]
  have eA:∀ p:List Nat,(∀ j,j∈p→j∈l1)→∀ a,Xt ops vs1 p a=Xt ops vs p a:=fun p hp a=>Z1h p a fun j hj=>(ev1 j (hp j hj)).symm
  have eB:∀ p:List Nat,(∀ j,j∈p→j∈l2)→∀ a,Xt ops vs2 p a=Xt ops vs p a:=fun p hp a=>Z1h p a fun j hj=>(ev2 j (hp j hj)).symm
  have hstep:∀ p i post,l1++l2=p++i::post→StepQ C.P ops (fun w=>Inv C.w0 C.M w H) vs i (Xt ops vs p a0)∧(i∈l2→StepU C.P ops vs i (Xt ops vs p a0)):=by
    intro p i post e
    rcases List.append_eq_append_iff.1 e with ⟨q,e1,e2⟩ | ⟨q,e1,e2⟩
    · -- p = l1 ++ q
      have hq:∀ j,j∈q→j∈l2:=fun j hj=>by rw [e2];exact List.mem_append_left _ hj
      have hi:i∈l2:=by rw [e2];simp
      have h:=hst2 q i post e2
      have:StepU C.P ops vs i (Xt ops vs p a0):=by
        rw [e1,Z4m,←eA l1 (fun _ h=>h),←eB q hq]
        obtain ⟨o,a1,a2,a3,a4⟩:=h
        exact ⟨o,a1,a2,a3,by rw [ev2 i hi];exact a4⟩
      exact ⟨this.q,fun _=>this⟩
    · cases q with
      | nil =>
        simp only [List.append_nil,List.nil_append] at e1 e2
        have hi:i∈l2:=by rw [←e2];simp
        have h:=hst2 [] i post e2.symm
        have:StepU C.P ops vs i (Xt ops vs p a0):=by
          rw [←e1,←eA l1 (fun _ h=>h)]
          obtain ⟨o,a1,a2,a3,a4⟩:=h
          exact ⟨o,a1,a2,a3,by rw [ev2 i hi];exact a4⟩
        exact ⟨this.q,fun _=>this⟩
      | cons r q =>
        simp only [List.cons_append,List.cons.injEq] at e2
        obtain ⟨rfl,rfl⟩:=e2
        have hp:∀ j,j∈p→j∈l1:=fun j hj=>by rw [e1];exact List.mem_append_left _ hj
        have hi:i∈l1:=by rw [e1];simp
        have h:=hst1 p i q e1
        refine ⟨?_,fun h2=>absurd rfl (hdis i hi i h2)⟩
        rw [←eA p hp]
        obtain ⟨o,a1,a2,a3,a4⟩:=h
        exact ⟨o,a1,a2,a3,by rw [ev1 i hi];exact a4⟩
  rw [eA l1 (fun _ h=>h),eB l2 (fun _ h=>h),←Z4m] at hend2
  have hbase:DoneQ ops m vs a0 (fun _=>false) a0:=⟨rfl,rfl,fun j d _ h=>by simp at h,fun t _=>rfl⟩
  have hpre:∀ p post,l1++l2=p++post→DoneQ ops m vs a0 (fun q=>p.any (Nat.beq q)) (Xt ops vs p a0):=fun p post e=>by
    have:=Zca (vs:=vs) p _ _ (fun i hi=>by
      obtain ⟨h1,-,h2⟩:=hops i (by rw [e];exact List.mem_append_left _ hi)
      exact ⟨h1,h2⟩) hbase
    simpa using this
  have hfull:=hpre (l1++l2) [] (by simp)
  have quiet:∀ (done:Nat→Bool) (i:Nat) (o:Oper) (a:Act) (vs':Nat→Value),i∈l1++l2→ops[i]?=some o→(∀ j,j≠c→vs' j=vs j)→DoneQ ops m vs' a0 done a→(∀ j,Vh ops ops.size i j=true→done j=true) →
      ∃ d p post,o.dst=some d∧l1++l2=p++i::post∧(execOp a.eval o=execOp (Xt ops vs p a0).eval o∨∃ cs b,o.op=.select cs b)∧Region.wanted o (yielded ops a.tmps)=Region.wanted o (yielded ops (Xt ops vs p a0).tmps)∧DoneQ ops m vs' a0 (fun q=>if q=i then true else done q) (a.put (some d) (vs i)):=by
    intro done i o a vs' hi ho hvs hD hreach
    obtain ⟨p,post,e⟩:=List.append_of_mem hi
    obtain ⟨him,-,-,o',d,ho',hd,hs,hu,hl⟩:=g1 p i post e
    rw [ho] at ho';injection ho' with ho';subst ho'
    have hni:i≠c:=by rintro rfl;exact (List.mem_append.1 hi).elim (fun h=>hc1 h) (fun h=>hc2 h)
    have hnotc:∀ t,t∈o.looksAt ops→Xi ops c≠some t:=fun t ht hsct=>by
      obtain ⟨h1,-⟩:=hl t ht c hcm hsct
      rcases h1 with h1 | h1
      ·simp at h1
      · have : c ∈ l1 ++ l2 := by rw [e]; exact List.mem_append_left _ h1
        exact (List.mem_append.1 this).elim (fun h=>hc1 h) (fun h=>hc2 h)
    have hD2:DoneQ ops m vs a0 (fun q=>done q&&!(Nat.beq q c)) { a with tmps:=a.tmps.setIfInBounds dc (a0.tmps.getD dc undef) }:=by
      refine ⟨by simpa using hD.size,hD.defers,fun j e' hj hdj hsj hlt=>?_,fun t ht=>?_⟩
      · simp only [Bool.and_eq_true, Bool.not_eq_true'] at hdj
        have hjc:j≠c:=by rintro rfl;simp at hdj
        have hne:dc≠e':=by rintro rfl;exact huc j hj hjc hsj
        simp only [Array.getElem?_setIfInBounds,if_neg hne]
        rw [hD.has j e' hj hdj.1 hsj hlt,hvs j hjc]
      · simp only [Array.getElem?_setIfInBounds]
        by_cases hte:dc=t
        · subst hte
          rw [if_pos rfl]
          by_cases hlt:dc<a.tmps.size
          ·rw [if_pos hlt,Array.getD_eq_getD_getElem?,Array.getElem?_eq_getElem (by rw [←hD.size];exact hlt)];rfl
          ·rw [if_neg hlt];exact (Array.getElem?_eq_none (Nat.le_of_not_lt fun h=>hlt (by rw [hD.size];exact h))).symm
        · rw [if_neg hte]
          refine hD.old t fun j hj hdj hsj=>?_
          by_cases hjc:j=c
          ·subst hjc;rw [hsc] at hsj;injection hsj with hsj;exact hte hsj
          · have hb' : Nat.beq j c = false := by
              cases hbb:Nat.beq j c with
              | true=>exact absurd (Nat.eq_of_beq_eq_true hbb) hjc
              | false=>rfl
            exact ht j hj (by simp [hdj,hb']) hsj
    have hA:=hpre p (i::post) e
    obtain ⟨hev,hwt⟩:=Z3q hD2 hA (o:=o) (fun t htl j hj hsj=>by
      obtain ⟨h1,h2⟩:=hl t htl j hj hsj
      have hjp:j∈p:=by exact h1.elim (fun h1=>by simp at h1) (fun h1=>h1)
      have hjc:j≠c:=by rintro rfl;exact hnotc t htl hsj
      have hb':Nat.beq j c=false:=by
        cases hbb:Nat.beq j c with
        | true=>exact absurd (Nat.eq_of_beq_eq_true hbb) hjc
        | false=>rfl
      exact ⟨by simp [hreach j h2,hb'],any_mem.2 hjp⟩)
    have hlook:∀ t,t∈o.looksAt ops→({ a with tmps:=a.tmps.setIfInBounds dc (a0.tmps.getD dc undef) }:Act).tmps[t]?=a.tmps[t]?:=fun t ht=>by
      have:dc≠t:=by rintro rfl;exact hnotc dc ht hsc
      simp only [Array.getElem?_setIfInBounds,if_neg this]
    have hev2:∀ x,x∈o.op.operands→a.eval x=({ a with tmps:=a.tmps.setIfInBounds dc (a0.tmps.getD dc undef) }:Act).eval x:=fun x hx=>by
      cases x with
      | tmp t=>exact Zhf (hlook t (List.mem_append_left _ (List.mem_filterMap.2 ⟨.tmp t,by simpa using hx,rfl⟩))).symm
      | const v=>rfl
      | global g=>rfl
      | func f=>rfl
    have hwt2:Region.wanted o (yielded ops a.tmps)=Region.wanted o (yielded ops (a.tmps.setIfInBounds dc (a0.tmps.getD dc undef))):=by
      unfold Region.wanted
      cases hg:o.guard with
      | none=>rfl
      | some gw =>
        obtain ⟨g,want⟩:=gw
        have:yielded ops a.tmps g=yielded ops (a.tmps.setIfInBounds dc (a0.tmps.getD dc undef)) g:=by
          unfold yielded
          cases ht:(ops[g]?).bind (·.dst) with
          | none=>rfl
          | some t =>
            have:=hlook t (List.mem_append_right _ (by rw [hg];simp [ht]))
            simp only [Option.bind_some]
            simp only at this
            rw [this]
        simp only [this]
    refine ⟨d,p,post,hd,e,?_,hwt2.trans hwt,?_⟩
    · by_cases hsel : ∃ cs b, o.op = .select cs b
      ·exact .inr hsel
      ·exact .inl (execOp_congr o (fun cs b h=>hsel ⟨cs,b,h⟩) fun x hx=>(hev2 x hx).trans (hev x hx))
    · have := hD.put him hs hu
      rw [hvs i hni] at this
      exact this
  have hmreach:∀ j,j<m→Vh ops ops.size m j=true:=fun j hj=>List.all_eq_true.1 s4 j (List.mem_range.2 hj)
  have hcover:∀ j,j<m→j=c∨j∈l1++l2:=fun j hj=>by
    have:=List.all_eq_true.1 s5 j (List.mem_range.2 hj)
    simp only [Bool.or_eq_true] at this
    rcases this with h | h
    ·exact .inl (Nat.eq_of_beq_eq_true h)
    ·exact .inr (any_mem.1 h)
  have hclosed:∀ (done:Nat→Bool) (i:Nat) (o:Oper),Ja ops done→ops[i]?=some o→(∀ e,e∈o.after→Region.binds .any e=true→done e.on=true)→Ja ops (fun q=>if q=i then true else done q):=by
    intro done i o hc ho hd j o' ho' hj e he hbe
    show (if e.on=i then true else done e.on)=true
    by_cases hei:e.on=i
    ·rw [if_pos hei]
    · rw [if_neg hei]
      by_cases hji:j=i
      ·subst hji;rw [ho] at ho';injection ho' with ho';subst ho';exact hd e he hbe
      · have hj' : done j = true := by simpa [hji] using hj
        exact hc j o' ho' hj' e he hbe
  refine wpIn_region_any hm (Zde (J:=fun done a w=>Ja ops done ∧
      ((done c=false∧done m=false∧DoneQ ops m vs a0 done a∧Inv C.w0 C.M w H) ∨
       (done c=true∧done m=false∧(∀ j,j∈l1→done j=true)∧∃ v,DoneQ ops m (fun j=>if j=c then v else vs j) a0 done a∧wpOpsIn (FW C.ρ) 0 C.P ops (NQ Q) [m] ((Xt ops vs (l1++l2) a0).put (some dc) v) w) ∨
       (done m=true∧done c=true∧Q .normal a w)))
    hb ?_ ?_ ops.size (Array.replicate ops.size false) a0 _ (by simp) ?_ ?_)
  · rintro done i o a w ho hdi hd ⟨hc, hJ⟩
    have hi:i<ops.size:=(Array.getElem?_eq_some_iff.1 ho).1
    have hreach:∀ j,Vh ops ops.size i j=true→done j=true:=fun j hj=>Nw hc _ i j hj (fun o' ho'=>by rw [ho] at ho';injection ho' with ho';subst ho';exact hd)
    have hcl:=hclosed done i o hc ho hd
    by_cases him:i=m
    · subst him
      have hall:∀ j,j<i→done j=true:=fun j hj=>hreach j (hmreach j hj)
      rcases hJ with ⟨h1,-⟩ | ⟨h1,-,-,v,hD,hw⟩ | ⟨h1,-⟩
      ·rw [hall c hcm] at h1;cases h1
      · have ea : a = (Xt ops vs (l1 ++ l2) a0).put (some dc) v := by
          have h2:DoneQ ops i (fun j=>if j=c then v else vs j) a0 (fun q=>(l1++l2).any (Nat.beq q)) (Xt ops vs (l1++l2) a0):=hfull.congr fun j _ hj=>by
            have hjc:j≠c:=by rintro rfl;exact (List.mem_append.1 (any_mem.1 hj)).elim (fun h=>hc1 h) (fun h=>hc2 h)
            simp [hjc]
          have h3:=h2.put hcm hsc huc
          simp only [if_true] at h3
          refine hD.eq h3 hall fun j hj=>?_
          rcases hcover j hj with rfl | h
          ·simp
          ·simp [any_mem.2 h]
        rw [←ea,wpOpsIn_cons] at hw
        exact wpOpIn_mono (fun a' w' hw'=>⟨hcl,.inr (.inr ⟨by simp,by simp [h1],hw'⟩)⟩) (Zhc hw)
      ·rw [hdi] at h1;cases h1
    have hilt:i<m:=by omega
    have dmi:∀ {b:Bool},done m=b→(if m=i then true else done m)=b:=fun h=>by rw [if_neg (fun h=>him h.symm)];exact h
    by_cases hic:i=c
    · subst hic
      rcases hJ with ⟨-,hdm,hD,hinv⟩ | ⟨h1,-⟩ | ⟨-,h1,-⟩
      · rw [hoc] at ho; injection ho with ho; subst ho
        obtain ⟨o',f,xs,ho',hnd,hns,hrun⟩:=Zpq (a:=Xt ops vs (l1++l2) a0) (w:=w) s7
        rw [hoc] at ho';injection ho' with ho';subst ho'
        have hw:=hend2 w hinv
        rw [wpOpsIn_cons] at hw
        obtain ⟨hev,hwt⟩:=Z3q hD hfull (o:=oc) (fun t htl j hj hsj=>by
          obtain ⟨h1,h2⟩:=hlc t htl j hj hsj
          have:j∈l1:=by exact h1.elim (fun h1=>h1) (fun h1=>by simp at h1)
          exact ⟨hreach j h2,any_mem.2 (List.mem_append_left _ this)⟩)
        refine Zi8 (fun _=>trivial) hoc hnd (execOp_congr oc hns hev) hwt hrun ?_ hw
        intro v w' hk
        refine ⟨hcl,.inr (.inl ⟨by simp,dmi hdm,fun j hj=>?_,v,?_,?_⟩)⟩
        · show (if j = i then true else done j) = true
          split
          ·rfl
          ·exact hreach j (List.all_eq_true.1 s3 j hj)
        · have h2 : DoneQ ops m (fun j => if j = i then v else vs j) a0 done a := hD.congr fun j hj hdj => by
            have:j≠i:=by rintro rfl;rw [hdi] at hdj;cases hdj
            simp [this]
          have:=h2.put hcm hsc huc
          simp only [if_true] at this
          rw [hdc];exact this
        ·rw [hdc] at hk;exact hk
      ·rw [hdi] at h1;cases h1
      ·rw [hdi] at h1;cases h1
    have hil:i∈l1++l2:=by
      rcases hcover i hilt with h | h
      ·exact absurd h hic
      ·exact h
    have dci:∀ {b:Bool},done c=b→(if c=i then true else done c)=b:=fun h=>by rw [if_neg (fun h=>hic h.symm)];exact h
    rcases hJ with ⟨hdc',hdm,hD,hinv⟩ | ⟨hdc',hdm,hl1,v,hD,hw⟩ | ⟨hdm,-⟩
    · obtain ⟨d, p, post, hd', e, hex, hwt, hput⟩ := quiet done i o a vs hil ho (fun _ _ => rfl) hD hreach
      obtain ⟨o',ho',hnd',hns',hval⟩:=(hstep p i post e).1
      rw [ho] at ho';injection ho' with ho';subst ho'
      have hex:execOp a.eval o=execOp (Xt ops vs p a0).eval o:=hex.resolve_right fun ⟨cs,b,h⟩=>hns' cs b h
      unfold wpOpIn
      rw [ho]
      simp only
      rw [hwt]
      rcases hval with ⟨hw,hq⟩ | ⟨hw,hq⟩
      · rw [hw]
        simp only [if_true]
        refine ⟨fun _ _=>trivial,?_⟩
        rw [Oper.semAt_eq _ _ _ hnd',hex]
        have hq:=hq w hinv
        generalize (execOp (Xt ops vs p a0).eval o).run C.P w=r at hq
        cases r with
        | ok x w' =>
          cases x <;> simp only [Gv] at hq
          case value u =>
            obtain ⟨rfl,rfl⟩:=hq
            show _∧_
            refine ⟨hcl,.inl ⟨dci hdc',dmi hdm,?_,hinv⟩⟩
            rw [hd'];exact hput
          case enter f args =>
            obtain ⟨rfl,hcall⟩:=hq
            refine ⟨by simp [FW],callsIn_FW.2 (Calls.mono hcall ?_)⟩
            rintro e w'' ⟨rfl,hK⟩
            show _∧_
            refine ⟨hcl,.inl ⟨dci hdc',dmi hdm,?_,hK⟩⟩
            rw [hd'];exact hput
        | halt x w'=>simp only [Gv] at hq
      · rw [hw]
        simp only [Bool.false_eq_true,if_false]
        refine ⟨fun _ _=>trivial,hcl,.inl ⟨dci hdc',dmi hdm,?_,hinv⟩⟩
        rw [hd',←hq];exact hput
    · obtain ⟨d, p, post, hd', e, hex, hwt, hput⟩ := quiet done i o a _ hil ho (fun j hj => by simp [hj]) hD hreach
      have hi2:i∈l2:=by
        rcases List.mem_append.1 hil with h | h
        ·rw [hl1 i h] at hdi;cases hdi
        ·exact h
      obtain ⟨o',ho',hnd',hns',hval⟩:=(hstep p i post e).2 hi2
      rw [ho] at ho';injection ho' with ho';subst ho'
      have hex:execOp a.eval o=execOp (Xt ops vs p a0).eval o:=hex.resolve_right fun ⟨cs,b,h⟩=>hns' cs b h
      have fin:(fun a' w'=>Ja ops (fun q=>if q=i then true else done q) ∧
          (((if c=i then true else done c)=false∧(if m=i then true else done m)=false∧DoneQ ops m vs a0 (fun q=>if q=i then true else done q) a'∧Inv C.w0 C.M w' H) ∨
           ((if c=i then true else done c)=true∧(if m=i then true else done m)=false∧(∀ j,j∈l1→(if j=i then true else done j)=true)∧∃ v,DoneQ ops m (fun j=>if j=c then v else vs j) a0 (fun q=>if q=i then true else done q) a'∧wpOpsIn (FW C.ρ) 0 C.P ops (NQ Q) [m] ((Xt ops vs (l1++l2) a0).put (some dc) v) w') ∨
           ((if m=i then true else done m)=true∧(if c=i then true else done c)=true∧Q .normal a' w'))) (a.put o.dst (vs i)) w:=by
        refine ⟨hcl,.inr (.inl ⟨dci hdc',dmi hdm,fun j hj=>?_,v,?_,hw⟩)⟩
        · split
          ·rfl
          ·exact hl1 j hj
        ·rw [hd'];exact hput
      unfold wpOpIn
      rw [ho]
      simp only
      rw [hwt]
      rcases hval with ⟨hw',hq⟩ | ⟨hw',hq⟩
      · rw [hw']
        simp only [if_true]
        refine ⟨fun _ _=>trivial,?_⟩
        rw [Oper.semAt_eq _ _ _ hnd',hex,hq w]
        exact fin
      · rw [hw']
        simp only [Bool.false_eq_true,if_false]
        refine ⟨fun _ _=>trivial,?_⟩
        rw [←hq];exact fin
    · exfalso
      have:=Nw hc ops.size m i (hmreach i hilt) (fun o' ho' e he hbe=>hc m o' ho' hdm e he hbe)
      rw [hdi] at this;cases this
  · rintro done a w hall ⟨hc, hJ⟩
    rcases hJ with ⟨h1,-⟩ | ⟨-,h1,-⟩ | ⟨-,-,h⟩
    ·rw [hall c (by omega)] at h1;cases h1
    ·rw [hall m (by omega)] at h1;cases h1
    ·exact h
  · have : ((List.range ops.size).filter (fun i => !(Array.replicate ops.size false).getD i true)).length ≤ (List.range ops.size).length := List.length_filter_le _ _
    simpa using this
  · have hf : (fun q => (Array.replicate ops.size false).getD q false) = fun _ => false := by
      funext q
      simp only [Array.getD_eq_getD_getElem?,Array.getElem?_replicate]
      split <;> rfl
    rw [hf]
    exact ⟨fun i o _ h=>by simp at h,.inl ⟨rfl,rfl,hbase,hi0.ofHeap rfl rfl rfl rfl⟩⟩
def Z0d (o:Oper):Bool:=match o with
  | ⟨none,.store _ _ _,_,_,_,_⟩=>true
  | _=>false
theorem Zd3 {o:Oper}(h:Z0d o=true):(∀ c,o.op≠.defer c)∧(∀ cs b,o.op≠.select cs b):=by
 unfold Z0d at h
 split at h
 ·exact ⟨by simp,by simp⟩
 ·cases h
theorem Zgw {P:Program}{ρ:Operand→Value}{o:Oper}{w:World}(h:Z0d o=true):o.dst=none∧((∃ w',(execOp ρ o).run P w=.ok .skip w')∨∃ e w',(execOp ρ o).run P w=.halt e w'):=by
 unfold Z0d at h
 split at h
 ·
  rename_i t x y ty Zo af g
  refine ⟨rfl,?_⟩
  have:(execOp ρ ⟨none,.store t x y,ty,Zo,af,g⟩)=(do Instr.storeAt t (ρ x) (ρ y);pure .skip):=rfl
  rw [this]
  cases e:(Instr.storeAt t (ρ x) (ρ y)).run P w with
  | ok u w'=>exact .inl ⟨w',by simp [e]⟩
  | halt e' w'=>exact .inr ⟨e',w',by simp [e]⟩
 ·cases h
def setB2 (ops:Array Oper)(m:Nat)(pre:List Nat)(c:Nat):Bool:=!(pre.any (Nat.beq c))&&match ops[c]? with
  | none=>false
  | some o=>Z0d o&&(o.looksAt ops).all fun t=>(List.range m).all fun j=>!(Xi ops j==some t)||(pre.any (Nat.beq j)&&Vh ops ops.size c j)
theorem Zft {m c:Nat}{pre:List Nat}(h:setB2 ops m pre c=true)(hc:c<m):c∉pre∧∃ o,ops[c]?=some o∧Xi ops c=none∧Z0d o=true∧∀ t,t∈o.looksAt ops→∀ j,j<m→Xi ops j=some t→j∈pre∧Vh ops ops.size c j=true:=by
 simp only [setB2,Bool.and_eq_true] at h
 obtain ⟨h2,h3⟩:=h
 refine ⟨fun hm=>by rw [any_mem.2 hm] at h2;simp at h2,?_⟩
 cases ho:ops[c]? with
 | none=>rw [ho] at h3;simp at h3
 | some o =>
  rw [ho] at h3
  simp only [Bool.and_eq_true] at h3
  refine ⟨o,rfl,?_,h3.1,fun t ht j hj hs=>?_⟩
  ·simp [Xi,ho,(Zgw (P:=default) (ρ:=fun _=>undef) (w:=default) h3.1).1]
  ·
   have h5:=List.all_eq_true.1 (List.all_eq_true.1 h3.2 t ht) j (List.mem_range.2 hj)
   simp only [Bool.or_eq_true,Bool.and_eq_true] at h5
   rcases h5 with h5 | h5
   ·rw [hs] at h5;simp at h5
   ·exact ⟨any_mem.1 h5.1,h5.2⟩
theorem DoneQ.cut {m c:Nat}{vs:Nat→Value}{a0 a:Act}{done:Nat→Bool}(h:DoneQ ops m vs a0 done a)(hc:Xi ops c=none):DoneQ ops m vs a0 (fun q=>if q=c then true else done q) a :=
 ⟨h.size,h.defers,fun j d hj hd hs hl=>h.has j d hj (by
  have:j≠c:=by rintro rfl;rw [hc] at hs;cases hs
  simpa [this] using hd) hs hl,fun t ht=>h.old t fun j hj hd=>ht j hj (by
  by_cases e:j=c <;> simp [e,hd])⟩
theorem Zgn {F:Fence}{P:Program}{i:Nat}{o:Oper}{a b:Act}{w:World}{k1 k2:Act→World→Prop}(hF:∀ f,F.fn f)(ho:ops[i]?=some o)(hst:Z0d o=true)(hex:execOp a.eval o=execOp b.eval o)
    (hw:Region.wanted o (yielded ops a.tmps)=Region.wanted o (yielded ops b.tmps))(hk:∀ w',k1 b w'→k2 a w')
    (h:wpOpIn F 0 P ops (NQ Q) i k1 b w):wpOpIn F 0 P ops Q i k2 a w:=by
  obtain ⟨hnd,hns⟩:=Zd3 hst
  obtain ⟨hdst,hrun⟩:=Zgw (P:=P) (ρ:=b.eval) (w:=w) hst
  unfold wpOpIn at h ⊢
  rw [ho] at h ⊢
  simp only at h ⊢
  rw [hw]
  split
  · rename_i hwt
    simp only [hwt,if_true] at h
    refine ⟨fun f _=>hF f,?_⟩
    have h:=h.2
    rw [Oper.semAt_eq _ _ _ hnd] at h ⊢
    rw [hex]
    rcases hrun with ⟨w',hr⟩ | ⟨e,w',hr⟩
    · rw [hr] at h ⊢
      rw [Oper.uponIn_skip,hdst] at h ⊢
      exact hk _ h
    · rw [hr] at h ⊢
      cases e <;> simp only [Oper.uponIn] at h ⊢ <;> first | exact h | exact h.elim | exact (Z9d h).elim
  · rename_i hwt
    simp only [hwt,if_false,Bool.false_eq_true] at h
    rw [hdst] at h ⊢
    exact ⟨fun f _=>hF f,hk _ h.2⟩
def ordB (ops:Array Oper):List Nat→Bool
  | []=>true
  | x::l=>(l.all fun y=>Vh ops ops.size y x&&!(Nat.beq y x))&&!(l.any (Nat.beq x))&&ordB ops l
theorem Z42:∀ {l:List Nat},ordB ops l=true→∀ d1 q rest,l=d1++q::rest→(∀ i,i∈rest→Vh ops ops.size i q=true)∧q∉rest
 | [],_,d1,q,rest,e=>by simp at e
 | x::l,h,d1,q,rest,e=>by
  simp only [ordB,Bool.and_eq_true] at h
  cases d1 with
  | nil =>
   simp only [List.nil_append,List.cons.injEq] at e
   obtain ⟨rfl,rfl⟩:=e
   refine ⟨fun i hi=>?_,fun hm=>?_⟩
   ·
    have:=List.all_eq_true.1 h.1.1 i hi
    simp only [Bool.and_eq_true] at this
    exact this.1
   ·have:=h.1.2;rw [any_mem.2 hm] at this;simp at this
  | cons y d1 =>
   simp only [List.cons_append,List.cons.injEq] at e
   exact Z42 h.2 d1 q rest e.2
theorem Zdd {c:Nat}{cs:List Nat}(h:ordB ops (c::cs)=true):(∀ q,q∈cs→Vh ops ops.size q c=true)∧c∉cs∧∀ d1 q rest,cs=d1++q::rest→∀ i,i∈rest→Vh ops ops.size i q=true :=
 ⟨(Z42 h [] c cs rfl).1,(Z42 h [] c cs rfl).2,fun d1 q rest e=>(Z42 h (c::d1) q rest (by rw [e];rfl)).1⟩
theorem Zoi {c q:Nat}{cs d1 rest:List Nat}(h:ordB ops (c::cs)=true)(e:cs=d1++q::rest):q∉rest:=(Z42 h (c::d1) q rest (by rw [e];rfl)).2
theorem DoneQ.cuts {m:Nat}{vs:Nat→Value}{a0 a:Act}:∀ (cs:List Nat) {done:Nat→Bool},DoneQ ops m vs a0 done a→(∀ q,q∈cs→Xi ops q=none)→DoneQ ops m vs a0 (fun q=>done q||cs.any (Nat.beq q)) a
 | [],done,h,_=>by simpa using h
 | c::cs,done,h,hc=>by
  have h1:=(h.cut (hc c (.head _))).cuts cs fun q hq=>hc q (.tail _ hq)
  have e:(fun q:Nat=>(if q=c then true else done q)||cs.any (Nat.beq q))=fun q=>done q||(c::cs).any (Nat.beq q):=by
   funext q
   by_cases k:q=c
   ·subst k;simp
   ·
    have:Nat.beq q c=false:=by
     cases hb:Nat.beq q c with
     | true=>exact absurd (Nat.eq_of_beq_eq_true hb) k
     | false=>rfl
    simp [k,this]
  rw [←e];exact h1
theorem Z5u {id:Nat}(l1 l2:List Nat)(c:Nat)(cs:List Nat)(m:Nat)(hm:C.P.follows .mixedOrders=true)(hb:Ni ops=true)(hsz:Nat.beq ops.size (m+1)=true)(s1:setB ops m [] (l1++l2)=true)(s2:setB2 ops m l1 c=true)
    (s3:(l1.all fun j=>Vh ops ops.size c j)=true)(s4:((List.range m).all fun j=>Vh ops ops.size m j)=true)(s5:((List.range m).all fun j=>(c::cs).any (Nat.beq j)||(l1++l2).any (Nat.beq j))=true)(s6:(!(l2.any (Nat.beq c)))=true)(s7:Nat.blt c m=true)(s8:ordB ops (c::cs)=true)(s9:(cs.all fun q=>Nat.blt q m&&setB2 ops m (l1++l2) q)=true)
    (k:TQ C ops (fun a1=>Na C.P ops (fun a2=>∀ w,Inv C.w0 C.M w H→wpOpsIn (FW C.ρ) 0 C.P ops (NQ Q) (c::(cs++[m])) a2 w) l2 a1) l1 E H):T C (.region id ops true) Q E H:=by
  intro a0 w0 hf0 hi0
  have hsz:=Nat.eq_of_beq_eq_true hsz
  have g1:=fun p i post e=>Z9k (l:=l1++l2) s1 p i post e
  have hcm:c<m:=by simpa using s7
  obtain ⟨hc1,oc,hoc,hsc,hst,hlc⟩:=Zft s2 hcm
  have hcs:∀ q,q∈cs→q<m∧q∉l1++l2∧∃ o,ops[q]?=some o∧Xi ops q=none∧Z0d o=true∧∀ t,t∈o.looksAt ops→∀ j,j<m→Xi ops j=some t→j∈l1++l2∧Vh ops ops.size q j=true:=fun q hq=>by
    have h:=List.all_eq_true.1 s9 q hq
    simp only [Bool.and_eq_true] at h
    have hqm:q<m:=by simpa using h.1
    exact ⟨hqm,Zft h.2 hqm⟩
  have hc2:c∉l2:=fun h=>by rw [any_mem.2 h] at s6;simp at s6
  have hnd:(l1++l2).Nodup:=Zct fun p i post e=>(g1 p i post e).2.2.1
  have hops:∀ i,i∈l1++l2→i<m∧(∃ o,ops[i]?=some o)∧∃ d,Xi ops i=some d∧∀ j,j<m→j≠i→Xi ops j≠some d:=fun i hi=>by
    obtain ⟨p,post,e⟩:=List.append_of_mem hi
    obtain ⟨h1,-,-,o,d,h2,h3,h4,h5,-⟩:=g1 p i post e
    exact ⟨h1,⟨o,h2⟩,d,h4,h5⟩
  obtain ⟨hn1,hn2,hdis⟩:=List.nodup_append.1 hnd
  obtain ⟨vs1,hst1,hend1⟩:=Zbl l1 a0 hn1 (fun i hi=>(hops i (List.mem_append_left _ hi)).2.1) (k a0 hf0)
  obtain ⟨vs2,hst2,hend2⟩:=Zd1 l2 _ hn2 (fun i hi=>(hops i (List.mem_append_right _ hi)).2.1) hend1
  let vs:Nat→Value:=fun j=>if j∈l1 then vs1 j else vs2 j
  have ev1:∀ j,j∈l1→vs j=vs1 j:=fun j hj=>by simp [vs,hj]
  have ev2:∀ j,j∈l2→vs j=vs2 j:=fun j hj=>by
    have:j∉l1:=fun h=>hdis j h j hj rfl
    simp [vs,this]
  have eA:∀ p:List Nat,(∀ j,j∈p→j∈l1)→∀ a,Xt ops vs1 p a=Xt ops vs p a:=fun p hp a=>Z1h p a fun j hj=>(ev1 j (hp j hj)).symm
  have eB:∀ p:List Nat,(∀ j,j∈p→j∈l2)→∀ a,Xt ops vs2 p a=Xt ops vs p a:=fun p hp a=>Z1h p a fun j hj=>(ev2 j (hp j hj)).symm
  have hstep:∀ p i post,l1++l2=p++i::post→StepQ C.P ops (fun w=>Inv C.w0 C.M w H) vs i (Xt ops vs p a0)∧(i∈l2→StepU C.P ops vs i (Xt ops vs p a0)):=by
    intro p i post e
    rcases List.append_eq_append_iff.1 e with ⟨q,e1,e2⟩ | ⟨q,e1,e2⟩
    · -- p = l1 ++ q
      have hq:∀ j,j∈q→j∈l2:=fun j hj=>by rw [e2];exact List.mem_append_left _ hj
      have hi:i∈l2:=by rw [e2];simp
      have h:=hst2 q i post e2
      have:StepU C.P ops vs i (Xt ops vs p a0):=by
        rw [e1,Z4m,←eA l1 (fun _ h=>h),←eB q hq]
        obtain ⟨o,a1,a2,a3,a4⟩:=h
        exact ⟨o,a1,a2,a3,by rw [ev2 i hi];exact a4⟩
      exact ⟨this.q,fun _=>this⟩
    · cases q with
      | nil =>
        simp only [List.append_nil,List.nil_append] at e1 e2
        have hi:i∈l2:=by rw [←e2];simp
        have h:=hst2 [] i post e2.symm
        have:StepU C.P ops vs i (Xt ops vs p a0):=by
          rw [←e1,←eA l1 (fun _ h=>h)]
          obtain ⟨o,a1,a2,a3,a4⟩:=h
          exact ⟨o,a1,a2,a3,by rw [ev2 i hi];exact a4⟩
        exact ⟨this.q,fun _=>this⟩
      | cons r q =>
        simp only [List.cons_append,List.cons.injEq] at e2
        obtain ⟨rfl,rfl⟩:=e2
        have hp:∀ j,j∈p→j∈l1:=fun j hj=>by rw [e1];exact List.mem_append_left _ hj
        have hi:i∈l1:=by rw [e1];simp
        have h:=hst1 p i q e1
        refine ⟨?_,fun h2=>absurd rfl (hdis i hi i h2)⟩
        rw [←eA p hp]
        obtain ⟨o,a1,a2,a3,a4⟩:=h
        exact ⟨o,a1,a2,a3,by rw [ev1 i hi];exact a4⟩
  rw [eA l1 (fun _ h=>h),eB l2 (fun _ h=>h),←Z4m] at hend2
  have hbase:DoneQ ops m vs a0 (fun _=>false) a0:=⟨rfl,rfl,fun j d _ h=>by simp at h,fun t _=>rfl⟩
  have hpre:∀ p post,l1++l2=p++post→DoneQ ops m vs a0 (fun q=>p.any (Nat.beq q)) (Xt ops vs p a0):=fun p post e=>by
    have:=Zca (vs:=vs) p _ _ (fun i hi=>by
      obtain ⟨h1,-,h2⟩:=hops i (by rw [e];exact List.mem_append_left _ hi)
      exact ⟨h1,h2⟩) hbase
    simpa using this
  have hfull:=hpre (l1++l2) [] (by simp)
  have quiet:∀ (done:Nat→Bool) (i:Nat) (o:Oper) (a:Act),i∈l1++l2→ops[i]?=some o→DoneQ ops m vs a0 done a→(∀ j,Vh ops ops.size i j=true→done j=true) →
      ∃ d p post,o.dst=some d∧l1++l2=p++i::post∧(execOp a.eval o=execOp (Xt ops vs p a0).eval o∨∃ cs b,o.op=.select cs b)∧Region.wanted o (yielded ops a.tmps)=Region.wanted o (yielded ops (Xt ops vs p a0).tmps)∧DoneQ ops m vs a0 (fun q=>if q=i then true else done q) (a.put (some d) (vs i)):=by
    intro done i o a hi ho hD hreach
    obtain ⟨p,post,e⟩:=List.append_of_mem hi
    obtain ⟨him,-,-,o',d,ho',hd,hs,hu,hl⟩:=g1 p i post e
    rw [ho] at ho';injection ho' with ho';subst ho'
    have hA:=hpre p (i::post) e
    obtain ⟨hev,hwt⟩:=Z3q hD hA (o:=o) (fun t htl j hj hsj=>by
      obtain ⟨h1,h2⟩:=hl t htl j hj hsj
      have hjp:j∈p:=h1.elim (fun h1=>by simp at h1) (fun h1=>h1)
      exact ⟨hreach j h2,any_mem.2 hjp⟩)
    refine ⟨d,p,post,hd,e,?_,hwt,hD.put him hs hu⟩
    by_cases hsel:∃ cs b,o.op=.select cs b
    ·exact .inr hsel
    ·exact .inl (execOp_congr o (fun cs b h=>hsel ⟨cs,b,h⟩) hev)
  have hmreach:∀ j,j<m→Vh ops ops.size m j=true:=fun j hj=>List.all_eq_true.1 s4 j (List.mem_range.2 hj)
  have hcover:∀ j,j<m→j∈c::cs∨j∈l1++l2:=fun j hj=>by
    have h:=List.all_eq_true.1 s5 j (List.mem_range.2 hj)
    cases e:(c::cs).any (Nat.beq j) with
    | true=>exact .inl (any_mem.1 e)
    | false=>rw [e,Bool.false_or] at h;exact .inr (any_mem.1 h)
  have hclosed:∀ (done:Nat→Bool) (i:Nat) (o:Oper),Ja ops done→ops[i]?=some o→(∀ e,e∈o.after→Region.binds .any e=true→done e.on=true)→Ja ops (fun q=>if q=i then true else done q):=by
    intro done i o hc ho hd j o' ho' hj e he hbe
    show (if e.on=i then true else done e.on)=true
    by_cases hei:e.on=i
    ·rw [if_pos hei]
    · rw [if_neg hei]
      by_cases hji:j=i
      ·subst hji;rw [ho] at ho';injection ho' with ho';subst ho';exact hd e he hbe
      · have hj' : done j = true := by simpa [hji] using hj
        exact hc j o' ho' hj' e he hbe
  refine wpIn_region_any hm (Zde (J:=fun done a w=>Ja ops done ∧
      ((done c=false∧(∀ q,q∈cs→done q=false)∧done m=false∧DoneQ ops m vs a0 done a∧Inv C.w0 C.M w H) ∨
       (∃ d1 rest,cs=d1++rest∧done c=true∧(∀ q,q∈d1→done q=true)∧(∀ q,q∈rest→done q=false)∧done m=false∧(∀ j,j∈l1→done j=true)∧DoneQ ops m vs a0 done a∧wpOpsIn (FW C.ρ) 0 C.P ops (NQ Q) (rest++[m]) (Xt ops vs (l1++l2) a0) w) ∨
       (done m=true∧(∀ q,q<m→done q=true)∧Q .normal a w)))
    hb ?_ ?_ ops.size (Array.replicate ops.size false) a0 _ (by simp) ?_ ?_)
  · rintro done i o a w ho hdi hd ⟨hc, hJ⟩
    have hi:i<ops.size:=(Array.getElem?_eq_some_iff.1 ho).1
    have hreach:∀ j,Vh ops ops.size i j=true→done j=true:=fun j hj=>Nw hc _ i j hj (fun o' ho'=>by rw [ho] at ho';injection ho' with ho';subst ho';exact hd)
    have hcl:=hclosed done i o hc ho hd
    have ocs:∀ q,q∈cs→Vh ops ops.size q c=true:=(Zdd s8).1
    by_cases him:i=m
    · subst him
      have hall:∀ j,j<i→done j=true:=fun j hj=>hreach j (hmreach j hj)
      rcases hJ with ⟨h1,-⟩ | ⟨d1,rest,e,h1,h2,h3,-,-,hD,hw⟩ | ⟨h1,-⟩
      ·rw [hall c hcm] at h1;cases h1
      · have er : rest = [] := by
          cases rest with
          | nil=>rfl
          | cons q rest =>
            exfalso
            have hq:=(hcs q (by rw [e];simp)).1
            have:=h3 q (.head _)
            rw [hall q hq] at this;cases this
        subst er
        have ea:a=Xt ops vs (l1++l2) a0:=by
          have h3:DoneQ ops i vs a0 (fun q=>(l1++l2).any (Nat.beq q)||(c::cs).any (Nat.beq q)) (Xt ops vs (l1++l2) a0):=hfull.cuts (c::cs) fun q hq=>by
            rcases List.mem_cons.1 hq with rfl | hq
            ·exact hsc
            ·obtain ⟨-,-,o,-,h,-⟩:=hcs q hq;exact h
          refine hD.eq h3 hall fun j hj=>?_
          rcases hcover j hj with h | h
          ·simp only [any_mem.2 h,Bool.or_true]
          ·simp only [any_mem.2 h,Bool.true_or]
        rw [←ea,List.nil_append,wpOpsIn_cons] at hw
        exact wpOpIn_mono (fun a' w' hw'=>⟨hcl,.inr (.inr ⟨by simp,fun q hq=>by show (if q=i then true else done q)=true;rw [if_neg (by omega)];exact hall q hq,hw'⟩)⟩) (Zhc hw)
      ·rw [hdi] at h1;cases h1
    have hilt:i<m:=by omega
    have dmi:∀ {b:Bool},done m=b→(if m=i then true else done m)=b:=fun h=>by rw [if_neg (fun h=>him h.symm)];exact h
    by_cases hic:i=c
    · subst hic
      rcases hJ with ⟨-,hdcs,hdm,hD,hinv⟩ | ⟨d1,rest,e,h1,-⟩ | ⟨-,h1,-⟩
      · rw [hoc] at ho; injection ho with ho; subst ho
        obtain ⟨hnd,hns⟩:=Zd3 hst
        have hw:=hend2 w hinv
        rw [wpOpsIn_cons] at hw
        obtain ⟨hev,hwt⟩:=Z3q hD hfull (o:=oc) (fun t htl j hj hsj=>by
          obtain ⟨h1,h2⟩:=hlc t htl j hj hsj
          exact ⟨hreach j h2,any_mem.2 (List.mem_append_left _ h1)⟩)
        refine Zgn (fun _=>trivial) hoc hst (execOp_congr oc hns hev) hwt ?_ hw
        intro w' hk
        refine ⟨hcl,.inr (.inl ⟨[],cs,rfl,by simp,fun q hq=>by simp at hq,fun q hq=>?_,dmi hdm,fun j hj=>?_,?_,hk⟩)⟩
        · show (if q = i then true else done q) = false
          rw [if_neg (fun h=>by subst h;exact (Zdd s8).2.1 hq)]
          exact hdcs q hq
        · show (if j = i then true else done j) = true
          split
          ·rfl
          ·exact hreach j (List.all_eq_true.1 s3 j hj)
        ·exact hD.cut hsc
      ·rw [hdi] at h1;cases h1
      ·rw [h1 i hcm] at hdi;cases hdi
    have dci:∀ {b:Bool},done c=b→(if c=i then true else done c)=b:=fun h=>by rw [if_neg (fun h=>hic h.symm)];exact h
    by_cases hics:i∈cs
    · obtain ⟨-, hni, oi, hoi, hsi, hsti, hli⟩ := hcs i hics
      have hdc:done c=true:=hreach c (ocs i hics)
      rcases hJ with ⟨h1,-⟩ | ⟨d1,rest,e,h1,h2,h3,hdm,hl1,hD,hw⟩ | ⟨-,h1,-⟩
      ·rw [hdc] at h1;cases h1
      · rw [hoi] at ho; injection ho with ho; subst ho
        cases rest with
        | nil=>rw [List.append_nil] at e;subst e;rw [h2 i hics] at hdi;cases hdi
        | cons q rest =>
          have hqi:q=i:=by
            have hm:i∈d1++q::rest:=e▸hics
            rcases List.mem_append.1 hm with h | h
            ·rw [h2 i h] at hdi;cases hdi
            · rcases List.mem_cons.1 h with h | h
              ·exact h.symm
              · have := hreach q ((Zdd s8).2.2 d1 q rest e i h)
                rw [h3 q (.head _)] at this;cases this
          subst hqi
          obtain ⟨hnd,hns⟩:=Zd3 hsti
          rw [List.cons_append,wpOpsIn_cons] at hw
          obtain ⟨hev,hwt⟩:=Z3q hD hfull (o:=oi) (fun t htl j hj hsj=>by
            obtain ⟨h1,h2⟩:=hli t htl j hj hsj
            exact ⟨hreach j h2,any_mem.2 h1⟩)
          refine Zgn (fun _=>trivial) hoi hsti (execOp_congr oi hns hev) hwt ?_ hw
          intro w' hk
          refine ⟨hcl,.inr (.inl ⟨d1++[q],rest,by rw [e];simp,dci h1,fun p hp=>?_,fun p hp=>?_,dmi hdm,fun j hj=>?_,hD.cut hsi,hk⟩)⟩
          · show (if p = q then true else done p) = true
            split
            ·rfl
            · rcases List.mem_append.1 hp with h | h
              ·exact h2 p h
              ·simp at h;contradiction
          · show (if p = q then true else done p) = false
            rw [if_neg (fun h=>by subst h;exact (Zoi s8 e) hp)]
            exact h3 p (.tail _ hp)
          · show (if j = q then true else done j) = true
            split
            ·rfl
            ·exact hl1 j hj
      ·rw [h1 i hilt] at hdi;cases hdi
    have hil:i∈l1++l2:=by
      rcases hcover i hilt with h | h
      · rcases List.mem_cons.1 h with h | h
        ·exact absurd h hic
        ·exact absurd h hics
      ·exact h
    have dcs:∀ {q:Nat} {b:Bool},q∈cs→done q=b→(if q=i then true else done q)=b:=fun hq h=>by rw [if_neg (fun h=>by subst h;exact hics hq)];exact h
    rcases hJ with ⟨hdc',hdcs,hdm,hD,hinv⟩ | ⟨d1,rest,e0,hdc',h2,h3,hdm,hl1,hD,hw⟩ | ⟨hdm,h1,-⟩
    · obtain ⟨d, p, post, hd', e, hex, hwt, hput⟩ := quiet done i o a hil ho hD hreach
      obtain ⟨o',ho',hnd',hns',hval⟩:=(hstep p i post e).1
      rw [ho] at ho';injection ho' with ho';subst ho'
      have hex:execOp a.eval o=execOp (Xt ops vs p a0).eval o:=hex.resolve_right fun ⟨cs,b,h⟩=>hns' cs b h
      have fin:∀ a' w',DoneQ ops m vs a0 (fun q=>if q=i then true else done q) a'→Inv C.w0 C.M w' H→_:=fun a' w' h1 h2=>(⟨hcl,.inl ⟨dci hdc',fun q hq=>dcs hq (hdcs q hq),dmi hdm,h1,h2⟩⟩:Ja ops (fun q=>if q=i then true else done q) ∧
        (((if c=i then true else done c)=false∧(∀ q,q∈cs→(if q=i then true else done q)=false)∧(if m=i then true else done m)=false∧DoneQ ops m vs a0 (fun q=>if q=i then true else done q) a'∧Inv C.w0 C.M w' H) ∨
         (∃ d1 rest,cs=d1++rest∧(if c=i then true else done c)=true∧(∀ q,q∈d1→(if q=i then true else done q)=true)∧(∀ q,q∈rest→(if q=i then true else done q)=false)∧(if m=i then true else done m)=false∧(∀ j,j∈l1→(if j=i then true else done j)=true)∧DoneQ ops m vs a0 (fun q=>if q=i then true else done q) a'∧wpOpsIn (FW C.ρ) 0 C.P ops (NQ Q) (rest++[m]) (Xt ops vs (l1++l2) a0) w') ∨
         ((if m=i then true else done m)=true∧(∀ q,q<m→(if q=i then true else done q)=true)∧Q .normal a' w')))
      unfold wpOpIn
      rw [ho]
      simp only
      rw [hwt]
      rcases hval with ⟨hw,hq⟩ | ⟨hw,hq⟩
      · rw [hw]
        simp only [if_true]
        refine ⟨fun _ _=>trivial,?_⟩
        rw [Oper.semAt_eq _ _ _ hnd',hex]
        have hq:=hq w hinv
        generalize (execOp (Xt ops vs p a0).eval o).run C.P w=r at hq
        cases r with
        | ok x w' =>
          cases x <;> simp only [Gv] at hq
          case value u =>
            obtain ⟨rfl,rfl⟩:=hq
            show _∧_
            rw [hd'];exact fin _ _ hput hinv
          case enter f args =>
            obtain ⟨rfl,hcall⟩:=hq
            refine ⟨by simp [FW],callsIn_FW.2 (Calls.mono hcall ?_)⟩
            rintro e w'' ⟨rfl,hK⟩
            show _∧_
            rw [hd'];exact fin _ _ hput hK
        | halt x w'=>simp only [Gv] at hq
      · rw [hw]
        simp only [Bool.false_eq_true,if_false]
        refine ⟨fun _ _=>trivial,?_⟩
        rw [hd',←hq];exact fin _ _ hput hinv
    · obtain ⟨d, p, post, hd', e, hex, hwt, hput⟩ := quiet done i o a hil ho hD hreach
      have hi2:i∈l2:=by
        rcases List.mem_append.1 hil with h | h
        ·rw [hl1 i h] at hdi;cases hdi
        ·exact h
      obtain ⟨o',ho',hnd',hns',hval⟩:=(hstep p i post e).2 hi2
      rw [ho] at ho';injection ho' with ho';subst ho'
      have hex:execOp a.eval o=execOp (Xt ops vs p a0).eval o:=hex.resolve_right fun ⟨cs,b,h⟩=>hns' cs b h
      have fin:(fun a' w'=>Ja ops (fun q=>if q=i then true else done q) ∧
        (((if c=i then true else done c)=false∧(∀ q,q∈cs→(if q=i then true else done q)=false)∧(if m=i then true else done m)=false∧DoneQ ops m vs a0 (fun q=>if q=i then true else done q) a'∧Inv C.w0 C.M w' H) ∨
         (∃ d1 rest,cs=d1++rest∧(if c=i then true else done c)=true∧(∀ q,q∈d1→(if q=i then true else done q)=true)∧(∀ q,q∈rest→(if q=i then true else done q)=false)∧(if m=i then true else done m)=false∧(∀ j,j∈l1→(if j=i then true else done j)=true)∧DoneQ ops m vs a0 (fun q=>if q=i then true else done q) a'∧wpOpsIn (FW C.ρ) 0 C.P ops (NQ Q) (rest++[m]) (Xt ops vs (l1++l2) a0) w') ∨
         ((if m=i then true else done m)=true∧(∀ q,q<m→(if q=i then true else done q)=true)∧Q .normal a' w'))) (a.put o.dst (vs i)) w:=by
        refine ⟨hcl,.inr (.inl ⟨d1,rest,e0,dci hdc',fun q hq=>dcs (by rw [e0];exact List.mem_append_left _ hq) (h2 q hq),fun q hq=>dcs (by rw [e0];exact List.mem_append_right _ hq) (h3 q hq),dmi hdm,fun j hj=>?_,?_,hw⟩)⟩
        · split
          ·rfl
          ·exact hl1 j hj
        ·rw [hd'];exact hput
      unfold wpOpIn
      rw [ho]
      simp only
      rw [hwt]
      rcases hval with ⟨hw',hq⟩ | ⟨hw',hq⟩
      · rw [hw']
        simp only [if_true]
        refine ⟨fun _ _=>trivial,?_⟩
        rw [Oper.semAt_eq _ _ _ hnd',hex,hq w]
        exact fin
      · rw [hw']
        simp only [Bool.false_eq_true,if_false]
        refine ⟨fun _ _=>trivial,?_⟩
        rw [←hq];exact fin
    ·rw [h1 i hilt] at hdi;cases hdi
  · rintro done a w hall ⟨hc, hJ⟩
    rcases hJ with ⟨h1,-⟩ | ⟨d1,rest,-,-,-,-,h1,-⟩ | ⟨-,-,h⟩
    ·rw [hall c (by omega)] at h1;cases h1
    ·rw [hall m (by omega)] at h1;cases h1
    ·exact h
  · have : ((List.range ops.size).filter (fun i => !(Array.replicate ops.size false).getD i true)).length ≤ (List.range ops.size).length := List.length_filter_le _ _
    simpa using this
  · have hf : (fun q => (Array.replicate ops.size false).getD q false) = fun _ => false := by
      funext q
      simp only [Array.getD_eq_getD_getElem?,Array.getElem?_replicate]
      split <;> rfl
    rw [hf]
    exact ⟨fun i o _ h=>by simp at h,.inl ⟨rfl,fun _ _=>rfl,rfl,hbase,hi0.ofHeap rfl rfl rfl rfl⟩⟩
theorem Ri {Qn:Act→Prop}{l:List Nat}(h:TU C ops Qn l E):TQ C ops (fun a=>Na C.P ops Qn l a) [] E H:=h
theorem Rv {l:List Nat}{H0:Heap}(hH:H0=H)(h:TO C ops Q l E H):TU C ops (fun a=>∀ w,Inv C.w0 C.M w H0→wpOpsIn (FW C.ρ) 0 C.P ops Q l a w) [] E:=fun a hf w hi=>h a w hf (hH▸hi)
variable {Qn : Act → Prop} {l : List Nat} {i d : Nat} {ty : TypeId} {Zo : String} {af : Array Edge} {g : Option (Nat × Bool)}
theorem TU.val {op:Op}{v:Value}(ho:ops[i]?=some ⟨some d,op,ty,Zo,af,g⟩)(hg:Ya ops E g=true)(hd:Nat.ble (d+1) C.n=true)(hnd:∀ c,op≠.defer c)
    (hr:∀ a w,Fits C.n C.D E a→(execOp a.eval ⟨some d,op,ty,Zo,af,g⟩).run C.P w=.ok (.value v) w)
    (k:TU C ops Qn l ((d,v)::E))(hns:∀ cs b,op≠.select cs b:=by simp):TU C ops Qn (i::l) E:=by
  intro a hf
  simp only [Na,ho]
  refine ⟨hnd,hns,?_⟩
  rw [if_pos (Zao hf hg)]
  exact ⟨v,fun w=>hr a w hf,k _ (hf.put hd v)⟩
theorem TU.move {x:Operand}{v:Value}(ho:ops[i]?=some ⟨some d,.move x,ty,Zo,af,g⟩)(hg:Ya ops E g=true)(hd:Nat.ble (d+1) C.n=true)(hx:ev E x=some v)
    (kk:TU C ops Qn l ((d,v)::E)):TU C ops Qn (i::l) E:=TU.val ho hg hd (by simp) (fun a w hf=>by simp [execOp,hf.ev hx]) kk
theorem TU.nilCheck {x:Operand}{p:Addr}(ho:ops[i]?=some ⟨some d,.nilCheck x,ty,Zo,af,g⟩)(hg:Ya ops E g=true)(hd:Nat.ble (d+1) C.n=true)(hx:ev E x=some (.pointer (some p)))
    (k:TU C ops Qn l ((d,.pointer (some p))::E)):TU C ops Qn (i::l) E :=
  TU.val ho hg hd (by simp) (fun a w hf=>by simp [execOp,hf.ev hx]) k
theorem TU.fieldAddr {s:TypeId}{x:Operand}{f o b p:Nat}(ho:ops[i]?=some ⟨some d,.fieldAddr s x f,ty,Zo,af,g⟩)(hg:Ya ops E g=true)(hd:Nat.ble (d+1) C.n=true)
    (hx:ev E x=some (.pointer (some ⟨b,p,none⟩)))(hT:Yp C.P s f=some o)(kk:TU C ops Qn l ((d,.pointer (some ⟨b,p+o,none⟩))::E)):TU C ops Qn (i::l) E :=
  TU.val ho hg hd (by simp) (fun a w hf=>by simp [execOp,hf.ev hx,Zcs hT]) kk
theorem Z18 {s:TypeId}{x:Operand}{f o b:Nat}(ho:ops[i]?=some ⟨some d,.fieldAddr s x f,ty,Zo,af,g⟩)(hg:Ya ops E g=true)(hd:Nat.ble (d+1) C.n=true)
    (hx:ev E x=some (.pointer (some ⟨b,0,none⟩)))(hT:Yp C.P s f=some o)(kk:TU C ops Qn l ((d,.pointer (some ⟨b,o,none⟩))::E)):TU C ops Qn (i::l) E :=
  TU.fieldAddr ho hg hd hx hT (by rw [Nat.zero_add];exact kk)
def Xd (k:Nat):List Value:=[.pointer (some ⟨k,0,none⟩)]
variable {Q : Exit → Act → World → Prop}
theorem Zc4 {t:TypeId}{x:Operand}{base:Option Addr}{n c q:Nat}{p:Int}{xs:List Nat}(hq:xs.getD p.toNat 0=q)(hr:RS C.w0 C.M Xd 1 base n c xs)(hp:inb p xs.length)(q0_:ops[i]?=some ⟨some d,.load t x,ty,Zo,af,g⟩∧Ya ops E g=true∧Nat.ble (d+1) C.n=true∧ev E x=some (.pointer (some (ea base (p.toNat*1)))))(hT:Wj C.P t=true)
    (kk:TO C ops Q l ((d,.pointer (some ⟨q,0,none⟩))::E) H):TO C ops Q (i::l) E H:=have ⟨ho,hg,hd,hx⟩:=q0_;
  TO.load ho hg hd hx hT (fun w hi=>by
    have:=(hr.ro.monoM hr.far hi).at 0 (o:=p.toNat) (c:=0) (Kx hp) (by omega)
    rw [hq] at this
    simpa [Xd] using this) kk
theorem TO.ldPO {t T':TypeId}{x:Operand}{b q:Nat}{p:Int}{xs:List Nat}{j:List Value}{fr:Nat×Nat}(hq:xs.getD p.toNat 0=q)(hp:inb p xs.length)(ho:ops[i]?=some ⟨some d,.load t x,ty,Zo,af,g⟩)(hg:Ya ops E g=true)(hd:Nat.ble (d+1) C.n=true)
    (hx:ev E x=some (.pointer (some ⟨b,p.toNat,none⟩)))(hT:Wj C.P t=true)(hm:(some b,Obj.cells (arr Xd xs j).toArray T' fr)∈H)
    (kk:TO C ops Q l ((d,.pointer (some ⟨q,0,none⟩))::E) H):TO C ops Q (i::l) E H :=
  TO.ldFO (f:=Xd) (s:=1) (q:=0) 0 (fun _=>rfl) hp (by rw [hq];rfl) ho hg hd (by simpa using hx) hT hm kk
theorem Zd2 {t T':TypeId}{x:Operand}{ob:Option Nat}{n c q:Nat}{p:Int}{xs:List Nat}{j:List Value}{fr:Nat×Nat}(hq:xs.getD p.toNat 0=q)(hz:ob=none→c=0)(hc:n≤c)(hn:xs.length=n)(hp:inb p xs.length)(q0_:ops[i]?=some ⟨some d,.load t x,ty,Zo,af,g⟩∧Ya ops E g=true∧Nat.ble (d+1) C.n=true∧ev E x=some (.pointer (some (ea (sb ob) (p.toNat*1)))))(hT:Wj C.P t=true)(hm:(ob,Obj.cells (arr Xd xs j).toArray T' fr)∈H)
    (kk:TO C ops Q l ((d,.pointer (some ⟨q,0,none⟩))::E) H):TO C ops Q (i::l) E H:=by
  obtain ⟨ho,hg,hd,hx⟩:=q0_
  obtain ⟨b,rfl⟩:=Gm hz hc hn hp
  exact TO.ldPO hq hp ho hg hd (by rw [←Gr,←Nat.mul_one p.toNat];exact hx) hT hm kk
theorem TQ.andB {t t2:TypeId}{x y:Operand}{q:IntKind}{p r:Int}(q0_:ops[i]?=some ⟨some d,.binOp .and t x y t2,ty,Zo,af,g⟩∧Ya ops E g=true∧Nat.ble (d+1) C.n=true∧ev E x=some (.int q p)∧ev E y=some (.int q r))
    (kk:TQ C ops Qn l ((d,.int q (band q p r))::E) H):TQ C ops Qn (i::l) E H:=have ⟨ho,hg,hd,hx,hy⟩:=q0_;
  TQ.val ho hg hd (by simp) (fun a w hf _=>by
    have:(binOp .and t (.int q p) (.int q r))=pure (.int q (band q p r)):=by
      unfold band;cases q <;> rfl
    simp [execOp,hf.ev hx,hf.ev hy,eqGuard_at_int,this]) kk
theorem Zc9 {t T':TypeId}{x:Operand}{b o k:Nat}{cs vs:List Value}{fr:Nat×Nat}(q0_:ops[i]?=some ⟨some d,.load t x,ty,Zo,af,g⟩∧Ya ops E g=true∧Nat.ble (d+1) C.n=true∧ev E x=some (.pointer (some ⟨b,o,none⟩)))(hT:Va C.P t k=true)(hm:(some b,Obj.cells cs.toArray T' fr)∈H)(q1_:(cs.drop o).take k=vs∧vs.length=k)
    (kk:TQ C ops Qn l ((d,.agg vs.toArray)::E) H):TQ C ops Qn (i::l) E H:=have ⟨ho,hg,hd,hx⟩:=q0_;have ⟨hv,hk⟩:=q1_;
  Zd9 ho hg hd hx hT hk (fun w hi j v hj=>by
    rw [Addr.add_mid,hi.cell_own hm]
    subst hv
    rw [List.getElem?_take] at hj
    split at hj
    ·rw [List.getElem?_drop] at hj;simpa using hj
    ·cases hj) kk
theorem TQ.ldPR {t:TypeId}{x:Operand}{base:Option Addr}{n c q:Nat}{p:Int}{xs:List Nat}(hq:xs.getD p.toNat 0=q)(hr:RS C.w0 C.M Xd 1 base n c xs)(hp:inb p xs.length)(q0_:ops[i]?=some ⟨some d,.load t x,ty,Zo,af,g⟩∧Ya ops E g=true∧Nat.ble (d+1) C.n=true∧ev E x=some (.pointer (some (ea base (p.toNat*1)))))(hT:Wj C.P t=true)
    (kk:TQ C ops Qn l ((d,.pointer (some ⟨q,0,none⟩))::E) H):TQ C ops Qn (i::l) E H:=have ⟨ho,hg,hd,hx⟩:=q0_;
  TQ.load ho hg hd hx hT (fun w hi=>by
    have:=(hr.ro.monoM hr.far hi).at 0 (o:=p.toNat) (c:=0) (Kx hp) (by omega)
    rw [hq] at this
    simpa [Xd] using this) kk
theorem Z3t {t t2:TypeId}{x y:Operand}{us ws:List Int}{va vb:Array Value}(ks:List IntKind)(ht:eqsT C.P t ks=true)(q0_:ops[i]?=some ⟨some d,.binOp .neq t x y t2,ty,Zo,af,g⟩∧Ya ops E g=true∧Nat.ble (d+1) C.n=true∧ev E x=some (.agg va)∧ev E y=some (.agg vb)∧us.length=ks.length∧ws.length=ks.length∧((ks.zip us).map fun p=>Value.int p.1 p.2).toArray=va∧((ks.zip ws).map fun p=>Value.int p.1 p.2).toArray=vb)(kk:TO C ops Q l ((d,.bool (!decide (us=ws)))::E) H):TO C ops Q (i::l) E H:=have ⟨ho,hg,hd,hx,hy,ha,hb,hva,hvb⟩:=q0_;
  TO.val ho hg hd (by simp) (fun a w hf _=>by
    subst hva;subst hvb
    have h3:C.P.eqGuardType C.P.depth t=false:=by simp only [eqsT,Bool.and_eq_true,Bool.not_eq_true'] at ht;exact ht.2
    have:=Zbt (eqsT_run ht ha hb w) rfl
    simp only [execOp,hf.ev hx,hf.ev hy]
    simp [run_eqGuard_agg w _ _ _ _ _ _ h3,this]) kk
theorem TQ.ldPO {t T':TypeId}{x:Operand}{b q:Nat}{p:Int}{xs:List Nat}{j:List Value}{fr:Nat×Nat}(hq:xs.getD p.toNat 0=q)(hp:inb p xs.length)(ho:ops[i]?=some ⟨some d,.load t x,ty,Zo,af,g⟩)(hg:Ya ops E g=true)(hd:Nat.ble (d+1) C.n=true)
    (hx:ev E x=some (.pointer (some ⟨b,p.toNat,none⟩)))(hT:Wj C.P t=true)(hm:(some b,Obj.cells (arr Xd xs j).toArray T' fr)∈H)
    (kk:TQ C ops Qn l ((d,.pointer (some ⟨q,0,none⟩))::E) H):TQ C ops Qn (i::l) E H :=
  TQ.ldFO (f:=Xd) (s:=1) (q:=0) 0 (fun _=>rfl) hp (by rw [hq];rfl) ho hg hd (by simpa using hx) hT hm kk
theorem TQ.ldPV {t T':TypeId}{x:Operand}{ob:Option Nat}{n c q:Nat}{p:Int}{xs:List Nat}{j:List Value}{fr:Nat×Nat}(hq:xs.getD p.toNat 0=q)(hz:ob=none→c=0)(hc:n≤c)(hn:xs.length=n)(hp:inb p xs.length)(q0_:ops[i]?=some ⟨some d,.load t x,ty,Zo,af,g⟩∧Ya ops E g=true∧Nat.ble (d+1) C.n=true∧ev E x=some (.pointer (some (ea (sb ob) (p.toNat*1)))))(hT:Wj C.P t=true)(hm:(ob,Obj.cells (arr Xd xs j).toArray T' fr)∈H)
    (kk:TQ C ops Qn l ((d,.pointer (some ⟨q,0,none⟩))::E) H):TQ C ops Qn (i::l) E H:=by
  obtain ⟨ho,hg,hd,hx⟩:=q0_
  obtain ⟨b,rfl⟩:=Gm hz hc hn hp
  exact TQ.ldPO hq hp ho hg hd (by rw [←Gr,←Nat.mul_one p.toNat];exact hx) hT hm kk
end
end Go.Acq
namespace Go.Acq
open Go Go.RowKit
section rules
variable {C : Cx} {ops : Array Oper} {Q : Exit → Act → World → Prop} {l : List Nat} {E : Env} {H R : Heap} {i d : Nat} {ty : TypeId} {Zo : String} {af : Array Edge} {g : Option (Nat × Bool)}
end rules
section control
variable {C : Cx} {Q : Exit → Act → World → Prop} {E : Env} {H : Heap}
end control
end Go.Acq
namespace Go.Acq
open Go Go.RowKit
def ptE {α:Type}(f:α→List Value)(T:TypeId)(b:Nat)(x:α):Option Nat×Obj:=(some b,.cells (f x).toArray T (0,0))
def Yz {α:Type}(f:α→List Value)(T:TypeId)(bs:List Nat)(ws:List α):Heap:=List.zipWith (ptE f T) bs ws
section
variable {α : Type} {f : α → List Value} {T : TypeId}
theorem Zc5 [Inhabited α]:∀ {bs:List Nat} {ws:List α} {p:Nat} (hn:bs.length=ws.length) (hp:p<ws.length),
    List.Perm (Yz f T bs ws) (ptE f T (bs.getD p 0) (ws.getD p default)::Yz f T (bs.eraseIdx p) (ws.eraseIdx p))
  | [],[],p,_,h=>by simp at h
  | b::bs,x::ws,0,_,_=>List.Perm.refl _
  | b::bs,x::ws,p+1,hn,h=>by
    have:=Zc5 (bs:=bs) (ws:=ws) (p:=p) (by simpa using hn) (by simpa using h)
    exact (List.Perm.cons _ this).trans (List.Perm.swap _ _ _)
  | [],x::ws,p,hn,_=>by simp at hn
  | b::bs,[],p,hn,_=>by simp at hn
theorem Ze4 [Inhabited α]{y:α}:∀ {bs:List Nat} {ws:List α} {p:Nat} (hn:bs.length=ws.length) (hp:p<ws.length),
    List.Perm (Yz f T bs (ws.set p y)) (ptE f T (bs.getD p 0) y::Yz f T (bs.eraseIdx p) (ws.eraseIdx p))
  | [],[],p,_,h=>by simp at h
  | b::bs,x::ws,0,_,_=>List.Perm.refl _
  | b::bs,x::ws,p+1,hn,h=>by
    have:=Ze4 (y:=y) (bs:=bs) (ws:=ws) (p:=p) (by simpa using hn) (by simpa using h)
    exact (List.Perm.cons _ this).trans (List.Perm.swap _ _ _)
  | [],x::ws,p,hn,_=>by simp at hn
  | b::bs,[],p,hn,_=>by simp at hn
theorem Zej {b:Nat}{y:α}:∀ {bs:List Nat} {ws:List α} (hn:bs.length=ws.length),Yz f T (bs++[b]) (ws++[y])=Yz f T bs ws++[ptE f T b y]
 | [],[],_=>rfl
 | _::bs,_::ws,hn=>by
  have hn':bs.length=ws.length:=by simpa using hn
  have:=Zej (b:=b) (y:=y) hn'
  simp only [Yz] at this
  simp only [Yz,List.cons_append,List.zipWith_cons_cons,this]
 | [],_::_,hn=>by simp at hn
 | _::_,[],hn=>by simp at hn
theorem ptH_mem [Inhabited α]{bs:List Nat}{ws:List α}{p:Nat}(hn:bs.length=ws.length)(hp:p<ws.length):(some (bs.getD p 0),Obj.cells (f (ws.getD p default)).toArray T (0,0))∈Yz f T bs ws :=
 (Zc5 hn hp).symm.subset (.head _)
end
section
variable {C : Cx} {Q : Exit → Act → World → Prop} {E : Env} {H : Heap} {e : Exit} {code : Code} {α : Type} {f : α → List Value} {T' : TypeId}
theorem Np {α:Type}[Inhabited α]{ws:List α}{k:Int}{y:α}(h:Km ws k=some y):k.toNat<ws.length:=by
 unfold Km at h;split at h
 ·omega
 ·cases h
theorem Ze7 {α:Type}[Inhabited α]{ws:List α}{k:Int}{y:α}(h:Km ws k=some y):ws.getD k.toNat default=y:=by
 unfold Km at h;split at h
 ·injection h
 ·cases h
theorem Z3l [Inhabited α]{bs:List Nat}{ws:List α}{k:Int}{y:α}{b:Nat}{Es:Heap}(hn:bs.length=ws.length)(hg:Km ws k=some y)(q0_:bs.getD k.toNat 0=b∧H=Es++Yz f T' bs ws)
    (h:T C code Q E ((some b,.cells (f y).toArray T' (0,0))::(Es++Yz f T' (bs.eraseIdx k.toNat) (ws.eraseIdx k.toNat)))):T C code Q E H:=by
  obtain ⟨hb,hH⟩:=q0_
  subst hH;subst hb
  have hp:=Np hg
  have hy:=Ze7 hg
  subst hy
  exact fun a w hf hi=>h a w hf (hi.perm ((List.Perm.append_left Es (Zc5 hn hp)).trans List.perm_middle))
theorem Z0b [Inhabited α]{bs:List Nat}{ws:List α}{p b:Nat}{y:α}{Es:Heap}(hn:bs.length=ws.length)(hp:p<ws.length)(hb:bs.getD p 0=b)
    (hH:Pick ((some b,.cells (f y).toArray T' (0,0))::(Es++Yz f T' (bs.eraseIdx p) (ws.eraseIdx p))) H)(h:X C Q e E (Es++Yz f T' bs (ws.set p y))):X C Q e E H:=by
  subst hb
  exact fun a w hf hi=>h a w hf ((hi.pick hH).perm (List.perm_middle.symm.trans (List.Perm.append_left Es (Ze4 hn hp).symm)))
theorem X.addP {bs:List Nat}{ws:List α}{b:Nat}{y:α}{Es:Heap}(hn:bs.length=ws.length)
    (hH:Pick ((some b,.cells (f y).toArray T' (0,0))::(Es++Yz f T' bs ws)) H)(h:X C Q e E (Es++Yz f T' (bs++[b]) (ws++[y]))):X C Q e E H:=by
  intro a w hf hi
  rw [Zej hn] at h
  exact h a w hf ((hi.pick hH).perm ((List.perm_append_singleton _ _).symm.trans (by rw [List.append_assoc];exact List.Perm.refl _)))
theorem lenSnoc {α β:Type}{bs:List α}{ws:List β}{b:α}{y:β}(h:bs.length=ws.length):(bs++[b]).length=(ws++[y]).length:=by simp [h]
theorem Ue {α β:Type}{bs:List α}{ws:List β}{p:Nat}{y:β}(h:bs.length=ws.length):bs.length=(ws.set p y).length:=by simp [h]
theorem Lo {Hs Tl:Heap}(h:X C Q e E Hs):X C Q e E (Hs++Tl):=fun a w hf hi=>h a w hf (hi.pick (Zfc (List.Perm.refl _)))
end
section control
variable {C : Cx} {Q : Exit → Act → World → Prop} {E : Env} {H : Heap}
end control
section rules
variable {C : Cx} {ops : Array Oper} {Q : Exit → Act → World → Prop} {l : List Nat} {E : Env} {H R : Heap} {i d : Nat} {ty : TypeId} {Zo : String} {af : Array Edge} {g : Option (Nat × Bool)}
theorem Zc2 {α:Type}{t:TypeId}{at':Array TypeId}{x:Operand}{e:TypeId}{base:Option Addr}{n c m:Nat}{xs:List α}(h1:xs.length=m)(hn:xs.length=n)
    (q0_:ops[i]?=some ⟨some d,.call ⟨.builtin .len,#[x],at'⟩,ty,Zo,af,g⟩∧Ya ops E g=true∧Nat.ble (d+1) C.n=true∧at'[0]?=some t∧ev E x=some (.slice base n c))(ht:Wm C.P t=some e)(kk:TO C ops Q l ((d,.int .i64 (m:Int))::E) H):TO C ops Q (i::l) E H:=have ⟨ho,hg,hd,hat,hx⟩:=q0_;
  Vq hn ⟨ho,hg,hd,hat,hx⟩ ht (by rw [h1];exact kk)
theorem TQ.lenW {α:Type}{Qn:Act→Prop}{t:TypeId}{at':Array TypeId}{x:Operand}{e:TypeId}{base:Option Addr}{n c m:Nat}{xs:List α}(h1:xs.length=m)(hn:xs.length=n)
    (q0_:ops[i]?=some ⟨some d,.call ⟨.builtin .len,#[x],at'⟩,ty,Zo,af,g⟩∧Ya ops E g=true∧Nat.ble (d+1) C.n=true∧at'[0]?=some t∧ev E x=some (.slice base n c))(ht:Wm C.P t=some e)(kk:TQ C ops Qn l ((d,.int .i64 (m:Int))::E) H):TQ C ops Qn (i::l) E H:=have ⟨ho,hg,hd,hat,hx⟩:=q0_;
  Zbz hn ⟨ho,hg,hd,hat,hx⟩ ht (by rw [h1];exact kk)
end rules
theorem apokP {bs:List Nat}{m s:Nat}{b:Nat}(h:bs.length=m)(g:apok (m+1) s):apok (bs++[b]).length s:=by rw [List.length_append,List.length_singleton,h];exact g
theorem Jc {bs:List Nat}{m:Nat}{k:Int}(h:bs.length=m)(g:inb k m):inb k bs.length:=by rw [h];exact g
end Go.Acq
namespace Go.Acq
open Go Go.RowKit
inductive Phs
  | q (l:List Nat)
  | e (i:Nat)
section
variable {P : Program} {F : Fence} {F' : Option Nat} {ops : Array Oper} {Q : Exit → Act → World → Prop}
end
section
variable {C : Cx} {ops : Array Oper} {Q : Exit → Act → World → Prop} {E : Env} {H : Heap} {m : Nat} {ps : List Phs}
end
end Go.Acq
namespace Go.Acq
open Go Go.RowKit
structure FamW {α:Type}[Inhabited α](w:World)(M:List Nat)(f:α→List Value)(bs:List Nat)(ws:List α):Prop where
  at_:∀ k y,Km ws k=some y→HB w M (bs.getD k.toNat 0) (f y)
section
variable {α : Type} [Inhabited α] {w w0 : World} {M M' : List Nat} {f : α → List Value} {bs : List Nat} {ws : List α} {H Hm R Es Hs Tl : Heap} {T : TypeId}
theorem Inv.famW (hi:Inv w0 M w (Es++Yz f T bs ws))(hn:bs.length=ws.length):FamW w [] f bs ws:=⟨fun k y e=>by
 have h1:=Np e
 have h2:=Ze7 e
 subst h2
 exact hi.hb (List.mem_append_right _ (ptH_mem hn h1))⟩
theorem Kz (hp:List.Perm Es (Hs++R)):List.Perm (Es++Tl) ((Hs++Tl)++R):=by
 refine (List.Perm.append_right Tl hp).trans ?_
 rw [List.append_assoc,List.append_assoc]
 exact List.Perm.append_left Hs List.perm_append_comm
end
section
variable {C : Cx} {ops : Array Oper} {Q : Exit → Act → World → Prop} {l : List Nat} {E : Env} {Hs HE Tl : Heap}
theorem Z50 (h:TO C ops Q l E ((Hs++HE)++Tl)):TO C ops Q l E ((Hs++Tl)++HE):=fun a w hf hi=>h a w hf (hi.perm (by
 rw [List.append_assoc,List.append_assoc];exact List.Perm.append_left _ List.perm_append_comm))
end
end Go.Acq
