/-
  No cell of these rows narrows 'for every input' (looked for: loops, veiled, ifaces, maps, wideKeys, modest, calm, conditions, laid).
  DERIVED. THE GIVEN ROWS OF THIS SEAT. 2 by the template 'for every input the law returns true; each argument reads behind the call as it read before'; 0 by the template 'total and deterministic' (their statements: YtgafnhfbeiofnaaGreatTotals.lean).
  GIVEN WITH THE SEED: the statements are not yours to turn. If you find one false, say at which input.
  Laid BY PROGRAM, IN A SANDBOX (cutbox-rows.mjs): the forced cells as the released guide's own fill.sh prints them over the translation 3a225d8f3b93b077… (all of the seat's roots in one cut). By AI agents, Wed Nov 11 2026. No macro, syntax, notation, axiom, sorry.
-/
import Derived.Test.YtgafnhfbeiofnaaGreatChecked
import GoSem.Claim
import GoSem.ClaimJoined
import GoSem.ClaimMapViews
import Derived.JoinedTies
import Derived.KernelRfl
namespace Go.Proofs.YtgafnhfbeiofnaaGreat
/- THE CELL 'sum', in the pinned program and in every row, IS THE sha256 OF THE DUMP (.gsa) THAT YtgafnhfbeiofnaaGreatProg.lean LOADS. Nothing in Lean hashes anything: it is a label: what it is worth is what the hold of that sum in a sandbox is worth. -/
noncomputable def Tryz.pinned : Pinned := { name := "ytgafnhfbeiofnaagreat", sum := "3a225d8f3b93b077c17df2db27dcd15b0a43a440d171b51045bc00cc936bbeff", checked := Tryz.checked }
namespace Rows
def none {H : Type} : Left H := { results := [], args := [] }

/-- 'acequialaw25.SolverNone': WHATEVER THE INPUT: true; the input reads as it did. -/
def solverNoneSpec : ChangeSpec := { name := "solverNone", fn := fun _ => fun
  | [d1, d2, d3, d4] => { results := [.lit (.bool true)], args := [d1, d2, d3, d4] }
  | _ => none }
def solverNoneRow : OpenClaim := { program := "ytgafnhfbeiofnaagreat", sum := "3a225d8f3b93b077c17df2db27dcd15b0a43a440d171b51045bc00cc936bbeff", func := "acequia/acequialaw25.SolverNone", spec := "solverNone", inPlace := ["sync/atomic.StoreInt64", "sync/atomic.AddInt64", "sync/atomic.LoadInt64", "sync/atomic.CompareAndSwapInt64", "slices.overlaps[int]"], unfollowed := true, recurses := true, apart := false }
def SolverNoneSaid : Prop := solverNoneRow.holds Tryz.pinned (OpenSpec.ofChange solverNoneSpec)

/-- ITS FALSE NEIGHBOUR: 'it returns false'. Refute it at one input. -/
def solverNoneWrong : ChangeSpec := { name := "solverNone", fn := fun _ => fun
  | [d1, d2, d3, d4] => { results := [.lit (.bool false)], args := [d1, d2, d3, d4] }
  | _ => none }
def SolverNoneWrongFalsely : Prop := solverNoneRow.holds Tryz.pinned (OpenSpec.ofChange solverNoneWrong)

/-- 'acequialaw25.SolverAlone': WHATEVER THE INPUT: true; the input reads as it did. -/
def solverAloneSpec : ChangeSpec := { name := "solverAlone", fn := fun _ => fun
  | [d1, d2] => { results := [.lit (.bool true)], args := [d1, d2] }
  | _ => none }
def solverAloneRow : OpenClaim := { program := "ytgafnhfbeiofnaagreat", sum := "3a225d8f3b93b077c17df2db27dcd15b0a43a440d171b51045bc00cc936bbeff", func := "acequia/acequialaw25.SolverAlone", spec := "solverAlone", inPlace := ["sync/atomic.StoreInt64", "sync/atomic.AddInt64", "sync/atomic.LoadInt64", "sync/atomic.CompareAndSwapInt64", "slices.overlaps[int]"], unfollowed := true, recurses := true, apart := false }
def SolverAloneSaid : Prop := solverAloneRow.holds Tryz.pinned (OpenSpec.ofChange solverAloneSpec)

/-- ITS FALSE NEIGHBOUR: 'it returns false'. Refute it at one input. -/
def solverAloneWrong : ChangeSpec := { name := "solverAlone", fn := fun _ => fun
  | [d1, d2] => { results := [.lit (.bool false)], args := [d1, d2] }
  | _ => none }
def SolverAloneWrongFalsely : Prop := solverAloneRow.holds Tryz.pinned (OpenSpec.ofChange solverAloneWrong)

/- THE SECOND FORM. 'bulk': how many values and letters a reading holds, each counted each time it is reached (what is shared counts as often as it is met; a slice's spare places count too). A statement '..UptoSaid' is the law's where the arguments, and the package variables that the reading takes, are together of bulk at most 1048576: NARROWER than '..Said'. Prove '..Said' where nothing that the law and all that it calls make is longer than what came in: it says more and counts as full. Else prove '..UptoSaid'. A law counts once. -/
mutual
def uptoBulk {H : Type} : DataW H → Nat
  | .lit (.string bytes) => bytes.length + 1
  | .lit _ => 1
  | .nil => 1
  | .ptr d => uptoBulk d + 1
  | .slice elems spare => uptoBulkAll elems + uptoBulkAll spare + 1
  | .agg parts => uptoBulkAll parts + 1
  | .iface _ d => uptoBulk d + 1
  | .map entries => uptoBulkEntries entries + 1
  | .held _ => 1
def uptoBulkAll {H : Type} : List (DataW H) → Nat
  | [] => 0
  | d :: r => uptoBulk d + uptoBulkAll r
def uptoBulkEntries {H : Type} : List (Lit × DataW H) → Nat
  | [] => 0
  | x :: r => uptoBulkEntry x + uptoBulkEntries r
def uptoBulkEntry {H : Type} : Lit × DataW H → Nat
  | (.string bytes, d) => bytes.length + uptoBulk d + 1
  | (_, d) => uptoBulk d + 1
 end
def uptoSmall : (H : Type) → List (DataW H) → Bool := fun _ ds => decide (uptoBulkAll ds ≤ 1048576)
def OpenSpec.upto (s : _root_.Go.ChangeSpec) : _root_.Go.OpenSpec := { _root_.Go.OpenSpec.ofChange s with cond := some uptoSmall }

/-- 'acequialaw25.SolverNone', WHERE WHAT IT READS IS OF BULK AT MOST 1048576: true; the input reads as it did. -/
def solverNoneUptoRow : OpenClaim := { program := "ytgafnhfbeiofnaagreat", sum := "3a225d8f3b93b077c17df2db27dcd15b0a43a440d171b51045bc00cc936bbeff", func := "acequia/acequialaw25.SolverNone", spec := "solverNone", inPlace := ["sync/atomic.StoreInt64", "sync/atomic.AddInt64", "sync/atomic.LoadInt64", "sync/atomic.CompareAndSwapInt64", "slices.overlaps[int]"], unfollowed := true, recurses := true, apart := false, narrowed := true }
def SolverNoneUptoSaid : Prop := solverNoneUptoRow.holds Tryz.pinned (OpenSpec.upto solverNoneSpec)

/-- 'acequialaw25.SolverAlone', WHERE WHAT IT READS IS OF BULK AT MOST 1048576: true; the input reads as it did. -/
def solverAloneUptoRow : OpenClaim := { program := "ytgafnhfbeiofnaagreat", sum := "3a225d8f3b93b077c17df2db27dcd15b0a43a440d171b51045bc00cc936bbeff", func := "acequia/acequialaw25.SolverAlone", spec := "solverAlone", inPlace := ["sync/atomic.StoreInt64", "sync/atomic.AddInt64", "sync/atomic.LoadInt64", "sync/atomic.CompareAndSwapInt64", "slices.overlaps[int]"], unfollowed := true, recurses := true, apart := false, narrowed := true }
def SolverAloneUptoSaid : Prop := solverAloneUptoRow.holds Tryz.pinned (OpenSpec.upto solverAloneSpec)

end Rows
end Go.Proofs.YtgafnhfbeiofnaaGreat
