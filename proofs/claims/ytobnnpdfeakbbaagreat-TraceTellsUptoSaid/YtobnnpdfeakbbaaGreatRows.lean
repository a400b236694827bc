/-
  No cell of these rows narrows 'for every input' (looked for: loops, veiled, ifaces, maps, wideKeys, modest, calm, conditions, laid).
  DERIVED. THE GIVEN ROWS OF THIS SEAT. 10 by the template 'for every input the law returns true; each argument reads behind the call as it read before'; 0 by the template 'total and deterministic' (their statements: YtobnnpdfeakbbaaGreatTotals.lean).
  GIVEN WITH THE SEED: the statements are not yours to turn. If you find one false, say at which input.
  Laid BY PROGRAM, IN A SANDBOX (cutbox-rows.mjs): the forced cells as the released guide's own fill.sh prints them over the translation 3f33d2953249efbd… (all of the seat's roots in one cut). By AI agents, Wed Nov 11 2026. No macro, syntax, notation, axiom, sorry.
-/
import Derived.Test.YtobnnpdfeakbbaaGreatChecked
import GoSem.Claim
import GoSem.ClaimJoined
import GoSem.ClaimMapViews
import Derived.JoinedTies
import Derived.KernelRfl
namespace Go.Proofs.YtobnnpdfeakbbaaGreat
/- THE CELL 'sum', in the pinned program and in every row, IS THE sha256 OF THE DUMP (.gsa) THAT YtobnnpdfeakbbaaGreatProg.lean LOADS. Nothing in Lean hashes anything: it is a label: what it is worth is what the hold of that sum in a sandbox is worth. -/
noncomputable def Tryz.pinned : Pinned := { name := "ytobnnpdfeakbbaagreat", sum := "3f33d2953249efbd0a1977960791b00ecedcd583b7b40e1b1faa6604b706c46e", checked := Tryz.checked }
namespace Rows
def none {H : Type} : Left H := { results := [], args := [] }

/-- 'acequialaw16.WorkerAlone': WHATEVER THE INPUT: true; the input reads as it did. -/
def workerAloneSpec : ChangeSpec := { name := "workerAlone", fn := fun _ => fun
  | [d1, d2] => { results := [.lit (.bool true)], args := [d1, d2] }
  | _ => none }
def workerAloneRow : OpenClaim := { program := "ytobnnpdfeakbbaagreat", sum := "3f33d2953249efbd0a1977960791b00ecedcd583b7b40e1b1faa6604b706c46e", func := "acequia/acequialaw16.WorkerAlone", spec := "workerAlone", inPlace := ["sync/atomic.AddInt64", "sync/atomic.StoreInt64", "sync/atomic.LoadInt64", "sync/atomic.CompareAndSwapInt64"], unfollowed := true, recurses := true, apart := false }
def WorkerAloneSaid : Prop := workerAloneRow.holds Tryz.pinned (OpenSpec.ofChange workerAloneSpec)

/-- ITS FALSE NEIGHBOUR: 'it returns false'. Refute it at one input. -/
def workerAloneWrong : ChangeSpec := { name := "workerAlone", fn := fun _ => fun
  | [d1, d2] => { results := [.lit (.bool false)], args := [d1, d2] }
  | _ => none }
def WorkerAloneWrongFalsely : Prop := workerAloneRow.holds Tryz.pinned (OpenSpec.ofChange workerAloneWrong)

/-- 'acequialaw16.WorkerOwns': WHATEVER THE INPUT: true; the input reads as it did. -/
def workerOwnsSpec : ChangeSpec := { name := "workerOwns", fn := fun _ => fun
  | [d1, d2, d3, d4] => { results := [.lit (.bool true)], args := [d1, d2, d3, d4] }
  | _ => none }
def workerOwnsRow : OpenClaim := { program := "ytobnnpdfeakbbaagreat", sum := "3f33d2953249efbd0a1977960791b00ecedcd583b7b40e1b1faa6604b706c46e", func := "acequia/acequialaw16.WorkerOwns", spec := "workerOwns", inPlace := ["sync/atomic.AddInt64", "sync/atomic.StoreInt64", "sync/atomic.LoadInt64", "sync/atomic.CompareAndSwapInt64"], unfollowed := true, recurses := true, apart := false }
def WorkerOwnsSaid : Prop := workerOwnsRow.holds Tryz.pinned (OpenSpec.ofChange workerOwnsSpec)

/-- ITS FALSE NEIGHBOUR: 'it returns false'. Refute it at one input. -/
def workerOwnsWrong : ChangeSpec := { name := "workerOwns", fn := fun _ => fun
  | [d1, d2, d3, d4] => { results := [.lit (.bool false)], args := [d1, d2, d3, d4] }
  | _ => none }
def WorkerOwnsWrongFalsely : Prop := workerOwnsRow.holds Tryz.pinned (OpenSpec.ofChange workerOwnsWrong)

/-- 'acequialaw17.CrewTells': WHATEVER THE INPUT: true; the input reads as it did. -/
def crewTellsSpec : ChangeSpec := { name := "crewTells", fn := fun _ => fun
  | [d1, d2, d3, d4, d5, d6] => { results := [.lit (.bool true)], args := [d1, d2, d3, d4, d5, d6] }
  | _ => none }
def crewTellsRow : OpenClaim := { program := "ytobnnpdfeakbbaagreat", sum := "3f33d2953249efbd0a1977960791b00ecedcd583b7b40e1b1faa6604b706c46e", func := "acequia/acequialaw17.CrewTells", spec := "crewTells", inPlace := ["sync/atomic.StoreInt64", "sync/atomic.AddInt64", "sync/atomic.LoadInt64", "sync/atomic.CompareAndSwapInt64"], unfollowed := true, recurses := true, apart := false }
def CrewTellsSaid : Prop := crewTellsRow.holds Tryz.pinned (OpenSpec.ofChange crewTellsSpec)

/-- ITS FALSE NEIGHBOUR: 'it returns false'. Refute it at one input. -/
def crewTellsWrong : ChangeSpec := { name := "crewTells", fn := fun _ => fun
  | [d1, d2, d3, d4, d5, d6] => { results := [.lit (.bool false)], args := [d1, d2, d3, d4, d5, d6] }
  | _ => none }
def CrewTellsWrongFalsely : Prop := crewTellsRow.holds Tryz.pinned (OpenSpec.ofChange crewTellsWrong)

/-- 'acequialaw17.CrewEnds': WHATEVER THE INPUT: true; the input reads as it did. -/
def crewEndsSpec : ChangeSpec := { name := "crewEnds", fn := fun _ => fun
  | [d1, d2, d3, d4] => { results := [.lit (.bool true)], args := [d1, d2, d3, d4] }
  | _ => none }
def crewEndsRow : OpenClaim := { program := "ytobnnpdfeakbbaagreat", sum := "3f33d2953249efbd0a1977960791b00ecedcd583b7b40e1b1faa6604b706c46e", func := "acequia/acequialaw17.CrewEnds", spec := "crewEnds", inPlace := ["sync/atomic.StoreInt64", "sync/atomic.AddInt64", "sync/atomic.LoadInt64", "sync/atomic.CompareAndSwapInt64"], unfollowed := true, recurses := true, apart := false }
def CrewEndsSaid : Prop := crewEndsRow.holds Tryz.pinned (OpenSpec.ofChange crewEndsSpec)

/-- ITS FALSE NEIGHBOUR: 'it returns false'. Refute it at one input. -/
def crewEndsWrong : ChangeSpec := { name := "crewEnds", fn := fun _ => fun
  | [d1, d2, d3, d4] => { results := [.lit (.bool false)], args := [d1, d2, d3, d4] }
  | _ => none }
def CrewEndsWrongFalsely : Prop := crewEndsRow.holds Tryz.pinned (OpenSpec.ofChange crewEndsWrong)

/-- 'acequialaw17.CrewLimits': WHATEVER THE INPUT: true; the input reads as it did. -/
def crewLimitsSpec : ChangeSpec := { name := "crewLimits", fn := fun _ => fun
  | [d1, d2, d3, d4] => { results := [.lit (.bool true)], args := [d1, d2, d3, d4] }
  | _ => none }
def crewLimitsRow : OpenClaim := { program := "ytobnnpdfeakbbaagreat", sum := "3f33d2953249efbd0a1977960791b00ecedcd583b7b40e1b1faa6604b706c46e", func := "acequia/acequialaw17.CrewLimits", spec := "crewLimits", inPlace := ["sync/atomic.StoreInt64", "sync/atomic.AddInt64", "sync/atomic.LoadInt64", "sync/atomic.CompareAndSwapInt64"], unfollowed := true, recurses := true, apart := false }
def CrewLimitsSaid : Prop := crewLimitsRow.holds Tryz.pinned (OpenSpec.ofChange crewLimitsSpec)

/-- ITS FALSE NEIGHBOUR: 'it returns false'. Refute it at one input. -/
def crewLimitsWrong : ChangeSpec := { name := "crewLimits", fn := fun _ => fun
  | [d1, d2, d3, d4] => { results := [.lit (.bool false)], args := [d1, d2, d3, d4] }
  | _ => none }
def CrewLimitsWrongFalsely : Prop := crewLimitsRow.holds Tryz.pinned (OpenSpec.ofChange crewLimitsWrong)

/-- 'acequialaw17.CrewNone': WHATEVER THE INPUT: true; the input reads as it did. -/
def crewNoneSpec : ChangeSpec := { name := "crewNone", fn := fun _ => fun
  | [d1, d2, d3] => { results := [.lit (.bool true)], args := [d1, d2, d3] }
  | _ => none }
def crewNoneRow : OpenClaim := { program := "ytobnnpdfeakbbaagreat", sum := "3f33d2953249efbd0a1977960791b00ecedcd583b7b40e1b1faa6604b706c46e", func := "acequia/acequialaw17.CrewNone", spec := "crewNone", inPlace := ["sync/atomic.StoreInt64", "sync/atomic.AddInt64", "sync/atomic.LoadInt64", "sync/atomic.CompareAndSwapInt64"], unfollowed := true, recurses := true, apart := false }
def CrewNoneSaid : Prop := crewNoneRow.holds Tryz.pinned (OpenSpec.ofChange crewNoneSpec)

/-- ITS FALSE NEIGHBOUR: 'it returns false'. Refute it at one input. -/
def crewNoneWrong : ChangeSpec := { name := "crewNone", fn := fun _ => fun
  | [d1, d2, d3] => { results := [.lit (.bool false)], args := [d1, d2, d3] }
  | _ => none }
def CrewNoneWrongFalsely : Prop := crewNoneRow.holds Tryz.pinned (OpenSpec.ofChange crewNoneWrong)

/-- 'acequialaw18.TraceTells': WHATEVER THE INPUT: true; the input reads as it did. -/
def traceTellsSpec : ChangeSpec := { name := "traceTells", fn := fun _ => fun
  | [d1, d2, d3, d4, d5] => { results := [.lit (.bool true)], args := [d1, d2, d3, d4, d5] }
  | _ => none }
def traceTellsRow : OpenClaim := { program := "ytobnnpdfeakbbaagreat", sum := "3f33d2953249efbd0a1977960791b00ecedcd583b7b40e1b1faa6604b706c46e", func := "acequia/acequialaw18.TraceTells", spec := "traceTells", inPlace := ["sync/atomic.StoreInt64", "sync/atomic.AddInt64", "sync/atomic.LoadInt64", "sync/atomic.CompareAndSwapInt64"], unfollowed := true, recurses := true, apart := false }
def TraceTellsSaid : Prop := traceTellsRow.holds Tryz.pinned (OpenSpec.ofChange traceTellsSpec)

/-- ITS FALSE NEIGHBOUR: 'it returns false'. Refute it at one input. -/
def traceTellsWrong : ChangeSpec := { name := "traceTells", fn := fun _ => fun
  | [d1, d2, d3, d4, d5] => { results := [.lit (.bool false)], args := [d1, d2, d3, d4, d5] }
  | _ => none }
def TraceTellsWrongFalsely : Prop := traceTellsRow.holds Tryz.pinned (OpenSpec.ofChange traceTellsWrong)

/-- 'acequialaw18.TraceWrong': WHATEVER THE INPUT: true; the input reads as it did. -/
def traceWrongSpec : ChangeSpec := { name := "traceWrong", fn := fun _ => fun
  | [d1, d2, d3, d4, d5, d6] => { results := [.lit (.bool true)], args := [d1, d2, d3, d4, d5, d6] }
  | _ => none }
def traceWrongRow : OpenClaim := { program := "ytobnnpdfeakbbaagreat", sum := "3f33d2953249efbd0a1977960791b00ecedcd583b7b40e1b1faa6604b706c46e", func := "acequia/acequialaw18.TraceWrong", spec := "traceWrong", inPlace := ["sync/atomic.StoreInt64", "sync/atomic.AddInt64", "sync/atomic.LoadInt64", "sync/atomic.CompareAndSwapInt64"], unfollowed := true, recurses := true, apart := false }
def TraceWrongSaid : Prop := traceWrongRow.holds Tryz.pinned (OpenSpec.ofChange traceWrongSpec)

/-- ITS FALSE NEIGHBOUR: 'it returns false'. Refute it at one input. -/
def traceWrongWrong : ChangeSpec := { name := "traceWrong", fn := fun _ => fun
  | [d1, d2, d3, d4, d5, d6] => { results := [.lit (.bool false)], args := [d1, d2, d3, d4, d5, d6] }
  | _ => none }
def TraceWrongWrongFalsely : Prop := traceWrongRow.holds Tryz.pinned (OpenSpec.ofChange traceWrongWrong)

/-- 'acequialaw17.CrewAlone': WHATEVER THE INPUT: true; the input reads as it did. -/
def crewAloneSpec : ChangeSpec := { name := "crewAlone", fn := fun _ => fun
  | [d1, d2] => { results := [.lit (.bool true)], args := [d1, d2] }
  | _ => none }
def crewAloneRow : OpenClaim := { program := "ytobnnpdfeakbbaagreat", sum := "3f33d2953249efbd0a1977960791b00ecedcd583b7b40e1b1faa6604b706c46e", func := "acequia/acequialaw17.CrewAlone", spec := "crewAlone", inPlace := ["sync/atomic.StoreInt64", "sync/atomic.AddInt64", "sync/atomic.LoadInt64", "sync/atomic.CompareAndSwapInt64"], unfollowed := true, recurses := true, apart := false }
def CrewAloneSaid : Prop := crewAloneRow.holds Tryz.pinned (OpenSpec.ofChange crewAloneSpec)

/-- ITS FALSE NEIGHBOUR: 'it returns false'. Refute it at one input. -/
def crewAloneWrong : ChangeSpec := { name := "crewAlone", fn := fun _ => fun
  | [d1, d2] => { results := [.lit (.bool false)], args := [d1, d2] }
  | _ => none }
def CrewAloneWrongFalsely : Prop := crewAloneRow.holds Tryz.pinned (OpenSpec.ofChange crewAloneWrong)

/-- 'acequialaw18.TraceAlone': WHATEVER THE INPUT: true; the input reads as it did. -/
def traceAloneSpec : ChangeSpec := { name := "traceAlone", fn := fun _ => fun
  | [d1, d2] => { results := [.lit (.bool true)], args := [d1, d2] }
  | _ => none }
def traceAloneRow : OpenClaim := { program := "ytobnnpdfeakbbaagreat", sum := "3f33d2953249efbd0a1977960791b00ecedcd583b7b40e1b1faa6604b706c46e", func := "acequia/acequialaw18.TraceAlone", spec := "traceAlone", inPlace := ["sync/atomic.StoreInt64", "sync/atomic.AddInt64", "sync/atomic.LoadInt64", "sync/atomic.CompareAndSwapInt64"], unfollowed := true, recurses := true, apart := false }
def TraceAloneSaid : Prop := traceAloneRow.holds Tryz.pinned (OpenSpec.ofChange traceAloneSpec)

/-- ITS FALSE NEIGHBOUR: 'it returns false'. Refute it at one input. -/
def traceAloneWrong : ChangeSpec := { name := "traceAlone", fn := fun _ => fun
  | [d1, d2] => { results := [.lit (.bool false)], args := [d1, d2] }
  | _ => none }
def TraceAloneWrongFalsely : Prop := traceAloneRow.holds Tryz.pinned (OpenSpec.ofChange traceAloneWrong)

/- THE SECOND FORM. 'bulk': how many values and letters a reading holds, each counted each time it is reached (what is shared counts as often as it is met; a slice's spare places count too). A statement '..UptoSaid' is the law's where the arguments, and the package variables that the reading takes, are together of bulk at most 1048576: NARROWER than '..Said'. Prove '..Said' where nothing that the law and all that it calls make is longer than what came in: it says more and counts as full. Else prove '..UptoSaid'. A law counts once. -/
mutual
def uptoBulk {H : Type} : DataW H → Nat
  | .lit (.string bytes) => bytes.length + 1
  | .lit _ => 1
  | .nil => 1
  | .ptr d => uptoBulk d + 1
  | .slice elems spare => uptoBulkAll elems + uptoBulkAll spare + 1
  | .agg parts => uptoBulkAll parts + 1
  | .iface _ d => uptoBulk d + 1
  | .map entries => uptoBulkEntries entries + 1
  | .held _ => 1
def uptoBulkAll {H : Type} : List (DataW H) → Nat
  | [] => 0
  | d :: r => uptoBulk d + uptoBulkAll r
def uptoBulkEntries {H : Type} : List (Lit × DataW H) → Nat
  | [] => 0
  | x :: r => uptoBulkEntry x + uptoBulkEntries r
def uptoBulkEntry {H : Type} : Lit × DataW H → Nat
  | (.string bytes, d) => bytes.length + uptoBulk d + 1
  | (_, d) => uptoBulk d + 1
 end
def uptoSmall : (H : Type) → List (DataW H) → Bool := fun _ ds => decide (uptoBulkAll ds ≤ 1048576)
def OpenSpec.upto (s : _root_.Go.ChangeSpec) : _root_.Go.OpenSpec := { _root_.Go.OpenSpec.ofChange s with cond := some uptoSmall }

/-- 'acequialaw16.WorkerAlone', WHERE WHAT IT READS IS OF BULK AT MOST 1048576: true; the input reads as it did. -/
def workerAloneUptoRow : OpenClaim := { program := "ytobnnpdfeakbbaagreat", sum := "3f33d2953249efbd0a1977960791b00ecedcd583b7b40e1b1faa6604b706c46e", func := "acequia/acequialaw16.WorkerAlone", spec := "workerAlone", inPlace := ["sync/atomic.AddInt64", "sync/atomic.StoreInt64", "sync/atomic.LoadInt64", "sync/atomic.CompareAndSwapInt64"], unfollowed := true, recurses := true, apart := false, narrowed := true }
def WorkerAloneUptoSaid : Prop := workerAloneUptoRow.holds Tryz.pinned (OpenSpec.upto workerAloneSpec)

/-- 'acequialaw16.WorkerOwns', WHERE WHAT IT READS IS OF BULK AT MOST 1048576: true; the input reads as it did. -/
def workerOwnsUptoRow : OpenClaim := { program := "ytobnnpdfeakbbaagreat", sum := "3f33d2953249efbd0a1977960791b00ecedcd583b7b40e1b1faa6604b706c46e", func := "acequia/acequialaw16.WorkerOwns", spec := "workerOwns", inPlace := ["sync/atomic.AddInt64", "sync/atomic.StoreInt64", "sync/atomic.LoadInt64", "sync/atomic.CompareAndSwapInt64"], unfollowed := true, recurses := true, apart := false, narrowed := true }
def WorkerOwnsUptoSaid : Prop := workerOwnsUptoRow.holds Tryz.pinned (OpenSpec.upto workerOwnsSpec)

/-- 'acequialaw17.CrewTells', WHERE WHAT IT READS IS OF BULK AT MOST 1048576: true; the input reads as it did. -/
def crewTellsUptoRow : OpenClaim := { program := "ytobnnpdfeakbbaagreat", sum := "3f33d2953249efbd0a1977960791b00ecedcd583b7b40e1b1faa6604b706c46e", func := "acequia/acequialaw17.CrewTells", spec := "crewTells", inPlace := ["sync/atomic.StoreInt64", "sync/atomic.AddInt64", "sync/atomic.LoadInt64", "sync/atomic.CompareAndSwapInt64"], unfollowed := true, recurses := true, apart := false, narrowed := true }
def CrewTellsUptoSaid : Prop := crewTellsUptoRow.holds Tryz.pinned (OpenSpec.upto crewTellsSpec)

/-- 'acequialaw17.CrewEnds', WHERE WHAT IT READS IS OF BULK AT MOST 1048576: true; the input reads as it did. -/
def crewEndsUptoRow : OpenClaim := { program := "ytobnnpdfeakbbaagreat", sum := "3f33d2953249efbd0a1977960791b00ecedcd583b7b40e1b1faa6604b706c46e", func := "acequia/acequialaw17.CrewEnds", spec := "crewEnds", inPlace := ["sync/atomic.StoreInt64", "sync/atomic.AddInt64", "sync/atomic.LoadInt64", "sync/atomic.CompareAndSwapInt64"], unfollowed := true, recurses := true, apart := false, narrowed := true }
def CrewEndsUptoSaid : Prop := crewEndsUptoRow.holds Tryz.pinned (OpenSpec.upto crewEndsSpec)

/-- 'acequialaw17.CrewLimits', WHERE WHAT IT READS IS OF BULK AT MOST 1048576: true; the input reads as it did. -/
def crewLimitsUptoRow : OpenClaim := { program := "ytobnnpdfeakbbaagreat", sum := "3f33d2953249efbd0a1977960791b00ecedcd583b7b40e1b1faa6604b706c46e", func := "acequia/acequialaw17.CrewLimits", spec := "crewLimits", inPlace := ["sync/atomic.StoreInt64", "sync/atomic.AddInt64", "sync/atomic.LoadInt64", "sync/atomic.CompareAndSwapInt64"], unfollowed := true, recurses := true, apart := false, narrowed := true }
def CrewLimitsUptoSaid : Prop := crewLimitsUptoRow.holds Tryz.pinned (OpenSpec.upto crewLimitsSpec)

/-- 'acequialaw17.CrewNone', WHERE WHAT IT READS IS OF BULK AT MOST 1048576: true; the input reads as it did. -/
def crewNoneUptoRow : OpenClaim := { program := "ytobnnpdfeakbbaagreat", sum := "3f33d2953249efbd0a1977960791b00ecedcd583b7b40e1b1faa6604b706c46e", func := "acequia/acequialaw17.CrewNone", spec := "crewNone", inPlace := ["sync/atomic.StoreInt64", "sync/atomic.AddInt64", "sync/atomic.LoadInt64", "sync/atomic.CompareAndSwapInt64"], unfollowed := true, recurses := true, apart := false, narrowed := true }
def CrewNoneUptoSaid : Prop := crewNoneUptoRow.holds Tryz.pinned (OpenSpec.upto crewNoneSpec)

/-- 'acequialaw18.TraceTells', WHERE WHAT IT READS IS OF BULK AT MOST 1048576: true; the input reads as it did. -/
def traceTellsUptoRow : OpenClaim := { program := "ytobnnpdfeakbbaagreat", sum := "3f33d2953249efbd0a1977960791b00ecedcd583b7b40e1b1faa6604b706c46e", func := "acequia/acequialaw18.TraceTells", spec := "traceTells", inPlace := ["sync/atomic.StoreInt64", "sync/atomic.AddInt64", "sync/atomic.LoadInt64", "sync/atomic.CompareAndSwapInt64"], unfollowed := true, recurses := true, apart := false, narrowed := true }
def TraceTellsUptoSaid : Prop := traceTellsUptoRow.holds Tryz.pinned (OpenSpec.upto traceTellsSpec)

/-- 'acequialaw18.TraceWrong', WHERE WHAT IT READS IS OF BULK AT MOST 1048576: true; the input reads as it did. -/
def traceWrongUptoRow : OpenClaim := { program := "ytobnnpdfeakbbaagreat", sum := "3f33d2953249efbd0a1977960791b00ecedcd583b7b40e1b1faa6604b706c46e", func := "acequia/acequialaw18.TraceWrong", spec := "traceWrong", inPlace := ["sync/atomic.StoreInt64", "sync/atomic.AddInt64", "sync/atomic.LoadInt64", "sync/atomic.CompareAndSwapInt64"], unfollowed := true, recurses := true, apart := false, narrowed := true }
def TraceWrongUptoSaid : Prop := traceWrongUptoRow.holds Tryz.pinned (OpenSpec.upto traceWrongSpec)

/-- 'acequialaw17.CrewAlone', WHERE WHAT IT READS IS OF BULK AT MOST 1048576: true; the input reads as it did. -/
def crewAloneUptoRow : OpenClaim := { program := "ytobnnpdfeakbbaagreat", sum := "3f33d2953249efbd0a1977960791b00ecedcd583b7b40e1b1faa6604b706c46e", func := "acequia/acequialaw17.CrewAlone", spec := "crewAlone", inPlace := ["sync/atomic.StoreInt64", "sync/atomic.AddInt64", "sync/atomic.LoadInt64", "sync/atomic.CompareAndSwapInt64"], unfollowed := true, recurses := true, apart := false, narrowed := true }
def CrewAloneUptoSaid : Prop := crewAloneUptoRow.holds Tryz.pinned (OpenSpec.upto crewAloneSpec)

/-- 'acequialaw18.TraceAlone', WHERE WHAT IT READS IS OF BULK AT MOST 1048576: true; the input reads as it did. -/
def traceAloneUptoRow : OpenClaim := { program := "ytobnnpdfeakbbaagreat", sum := "3f33d2953249efbd0a1977960791b00ecedcd583b7b40e1b1faa6604b706c46e", func := "acequia/acequialaw18.TraceAlone", spec := "traceAlone", inPlace := ["sync/atomic.StoreInt64", "sync/atomic.AddInt64", "sync/atomic.LoadInt64", "sync/atomic.CompareAndSwapInt64"], unfollowed := true, recurses := true, apart := false, narrowed := true }
def TraceAloneUptoSaid : Prop := traceAloneUptoRow.holds Tryz.pinned (OpenSpec.upto traceAloneSpec)

end Rows
end Go.Proofs.YtobnnpdfeakbbaaGreat
