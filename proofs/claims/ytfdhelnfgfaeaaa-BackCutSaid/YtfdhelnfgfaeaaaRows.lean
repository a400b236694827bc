/-
  No cell of these rows narrows 'for every input' (looked for: loops, veiled, ifaces, maps, wideKeys, modest, calm, conditions, laid).
  DERIVED. THE GIVEN ROWS OF THIS SEAT. 12 by the template 'for every input the law returns true; each argument reads behind the call as it read before'; 0 by the template 'total and deterministic' (their statements: YtfdhelnfgfaeaaaTotals.lean).
  GIVEN WITH THE SEED: the statements are not yours to turn. If you find one false, say at which input.
  Laid BY PROGRAM, IN A SANDBOX (cutbox-rows.mjs): the forced cells as the released guide's own fill.sh prints them over the translation 6eaf4771ccbfb25e… (all of the seat's roots in one cut). By AI agents, Wed Nov 11 2026. No macro, syntax, notation, axiom, sorry.
-/
import Derived.Test.YtfdhelnfgfaeaaaChecked
import GoSem.Claim
import GoSem.ClaimJoined
import GoSem.ClaimMapViews
import Derived.JoinedTies
import Derived.KernelRfl
namespace Go.Proofs.Ytfdhelnfgfaeaaa
/- THE CELL 'sum', in the pinned program and in every row, IS THE sha256 OF THE DUMP (.gsa) THAT YtfdhelnfgfaeaaaProg.lean LOADS. Nothing in Lean hashes anything: it is a label: what it is worth is what the hold of that sum in a sandbox is worth. -/
noncomputable def Try.pinned : Pinned := { name := "ytfdhelnfgfaeaaa", sum := "6eaf4771ccbfb25ec43781e771ce3e139ba8c6767de634faf248e57265d7eb5d", checked := Try.checked }
namespace Rows
def none {H : Type} : Left H := { results := [], args := [] }

/-- 'acequialaw24.CheckSpoilt': WHATEVER THE INPUT: true; the input reads as it did. -/
def checkSpoiltSpec : ChangeSpec := { name := "checkSpoilt", fn := fun _ => fun
  | [d1, d2, d3] => { results := [.lit (.bool true)], args := [d1, d2, d3] }
  | _ => none }
def checkSpoiltRow : OpenClaim := { program := "ytfdhelnfgfaeaaa", sum := "6eaf4771ccbfb25ec43781e771ce3e139ba8c6767de634faf248e57265d7eb5d", func := "acequia/acequialaw24.CheckSpoilt", spec := "checkSpoilt", unfollowed := true, recurses := true, apart := false }
def CheckSpoiltSaid : Prop := checkSpoiltRow.holds Try.pinned (OpenSpec.ofChange checkSpoiltSpec)

/-- ITS FALSE NEIGHBOUR: 'it returns false'. Refute it at one input. -/
def checkSpoiltWrong : ChangeSpec := { name := "checkSpoilt", fn := fun _ => fun
  | [d1, d2, d3] => { results := [.lit (.bool false)], args := [d1, d2, d3] }
  | _ => none }
def CheckSpoiltWrongFalsely : Prop := checkSpoiltRow.holds Try.pinned (OpenSpec.ofChange checkSpoiltWrong)

/-- 'acequialaw22.CyclesFinds': WHATEVER THE INPUT: true; the input reads as it did. -/
def cyclesFindsSpec : ChangeSpec := { name := "cyclesFinds", fn := fun _ => fun
  | [d1, d2] => { results := [.lit (.bool true)], args := [d1, d2] }
  | _ => none }
def cyclesFindsRow : OpenClaim := { program := "ytfdhelnfgfaeaaa", sum := "6eaf4771ccbfb25ec43781e771ce3e139ba8c6767de634faf248e57265d7eb5d", func := "acequia/acequialaw22.CyclesFinds", spec := "cyclesFinds", inPlace := ["slices.overlaps[int]"], unfollowed := true, recurses := true, apart := false }
def CyclesFindsSaid : Prop := cyclesFindsRow.holds Try.pinned (OpenSpec.ofChange cyclesFindsSpec)

/-- ITS FALSE NEIGHBOUR: 'it returns false'. Refute it at one input. -/
def cyclesFindsWrong : ChangeSpec := { name := "cyclesFinds", fn := fun _ => fun
  | [d1, d2] => { results := [.lit (.bool false)], args := [d1, d2] }
  | _ => none }
def CyclesFindsWrongFalsely : Prop := cyclesFindsRow.holds Try.pinned (OpenSpec.ofChange cyclesFindsWrong)

/-- 'acequialaw22.CyclesNone': WHATEVER THE INPUT: true; the input reads as it did. -/
def cyclesNoneSpec : ChangeSpec := { name := "cyclesNone", fn := fun _ => fun
  | [d1, d2, d3] => { results := [.lit (.bool true)], args := [d1, d2, d3] }
  | _ => none }
def cyclesNoneRow : OpenClaim := { program := "ytfdhelnfgfaeaaa", sum := "6eaf4771ccbfb25ec43781e771ce3e139ba8c6767de634faf248e57265d7eb5d", func := "acequia/acequialaw22.CyclesNone", spec := "cyclesNone", inPlace := ["slices.overlaps[int]"], unfollowed := true, recurses := true, apart := false }
def CyclesNoneSaid : Prop := cyclesNoneRow.holds Try.pinned (OpenSpec.ofChange cyclesNoneSpec)

/-- ITS FALSE NEIGHBOUR: 'it returns false'. Refute it at one input. -/
def cyclesNoneWrong : ChangeSpec := { name := "cyclesNone", fn := fun _ => fun
  | [d1, d2, d3] => { results := [.lit (.bool false)], args := [d1, d2, d3] }
  | _ => none }
def CyclesNoneWrongFalsely : Prop := cyclesNoneRow.holds Try.pinned (OpenSpec.ofChange cyclesNoneWrong)

/-- 'acequialaw22.CyclesKeeps': WHATEVER THE INPUT: true; the input reads as it did. -/
def cyclesKeepsSpec : ChangeSpec := { name := "cyclesKeeps", fn := fun _ => fun
  | [d1, d2] => { results := [.lit (.bool true)], args := [d1, d2] }
  | _ => none }
def cyclesKeepsRow : OpenClaim := { program := "ytfdhelnfgfaeaaa", sum := "6eaf4771ccbfb25ec43781e771ce3e139ba8c6767de634faf248e57265d7eb5d", func := "acequia/acequialaw22.CyclesKeeps", spec := "cyclesKeeps", inPlace := ["slices.overlaps[int]"], unfollowed := true, recurses := true, apart := false }
def CyclesKeepsSaid : Prop := cyclesKeepsRow.holds Try.pinned (OpenSpec.ofChange cyclesKeepsSpec)

/-- ITS FALSE NEIGHBOUR: 'it returns false'. Refute it at one input. -/
def cyclesKeepsWrong : ChangeSpec := { name := "cyclesKeeps", fn := fun _ => fun
  | [d1, d2] => { results := [.lit (.bool false)], args := [d1, d2] }
  | _ => none }
def CyclesKeepsWrongFalsely : Prop := cyclesKeepsRow.holds Try.pinned (OpenSpec.ofChange cyclesKeepsWrong)

/-- 'acequialaw22.CyclesRound': WHATEVER THE INPUT: true; the input reads as it did. -/
def cyclesRoundSpec : ChangeSpec := { name := "cyclesRound", fn := fun _ => fun
  | [d1, d2, d3, d4] => { results := [.lit (.bool true)], args := [d1, d2, d3, d4] }
  | _ => none }
def cyclesRoundRow : OpenClaim := { program := "ytfdhelnfgfaeaaa", sum := "6eaf4771ccbfb25ec43781e771ce3e139ba8c6767de634faf248e57265d7eb5d", func := "acequia/acequialaw22.CyclesRound", spec := "cyclesRound", inPlace := ["slices.overlaps[int]"], unfollowed := true, recurses := true, apart := false }
def CyclesRoundSaid : Prop := cyclesRoundRow.holds Try.pinned (OpenSpec.ofChange cyclesRoundSpec)

/-- ITS FALSE NEIGHBOUR: 'it returns false'. Refute it at one input. -/
def cyclesRoundWrong : ChangeSpec := { name := "cyclesRound", fn := fun _ => fun
  | [d1, d2, d3, d4] => { results := [.lit (.bool false)], args := [d1, d2, d3, d4] }
  | _ => none }
def CyclesRoundWrongFalsely : Prop := cyclesRoundRow.holds Try.pinned (OpenSpec.ofChange cyclesRoundWrong)

/-- 'acequialaw24.CheckFlows': WHATEVER THE INPUT: true; the input reads as it did. -/
def checkFlowsSpec : ChangeSpec := { name := "checkFlows", fn := fun _ => fun
  | [d1, d2, d3, d4, d5] => { results := [.lit (.bool true)], args := [d1, d2, d3, d4, d5] }
  | _ => none }
def checkFlowsRow : OpenClaim := { program := "ytfdhelnfgfaeaaa", sum := "6eaf4771ccbfb25ec43781e771ce3e139ba8c6767de634faf248e57265d7eb5d", func := "acequia/acequialaw24.CheckFlows", spec := "checkFlows", unfollowed := true, recurses := true, apart := false }
def CheckFlowsSaid : Prop := checkFlowsRow.holds Try.pinned (OpenSpec.ofChange checkFlowsSpec)

/-- ITS FALSE NEIGHBOUR: 'it returns false'. Refute it at one input. -/
def checkFlowsWrong : ChangeSpec := { name := "checkFlows", fn := fun _ => fun
  | [d1, d2, d3, d4, d5] => { results := [.lit (.bool false)], args := [d1, d2, d3, d4, d5] }
  | _ => none }
def CheckFlowsWrongFalsely : Prop := checkFlowsRow.holds Try.pinned (OpenSpec.ofChange checkFlowsWrong)

/-- 'acequialaw24.CheckBest': WHATEVER THE INPUT: true; the input reads as it did. -/
def checkBestSpec : ChangeSpec := { name := "checkBest", fn := fun _ => fun
  | [d1, d2, d3, d4] => { results := [.lit (.bool true)], args := [d1, d2, d3, d4] }
  | _ => none }
def checkBestRow : OpenClaim := { program := "ytfdhelnfgfaeaaa", sum := "6eaf4771ccbfb25ec43781e771ce3e139ba8c6767de634faf248e57265d7eb5d", func := "acequia/acequialaw24.CheckBest", spec := "checkBest", unfollowed := true, recurses := true, apart := false }
def CheckBestSaid : Prop := checkBestRow.holds Try.pinned (OpenSpec.ofChange checkBestSpec)

/-- ITS FALSE NEIGHBOUR: 'it returns false'. Refute it at one input. -/
def checkBestWrong : ChangeSpec := { name := "checkBest", fn := fun _ => fun
  | [d1, d2, d3, d4] => { results := [.lit (.bool false)], args := [d1, d2, d3, d4] }
  | _ => none }
def CheckBestWrongFalsely : Prop := checkBestRow.holds Try.pinned (OpenSpec.ofChange checkBestWrong)

/-- 'acequialaw24.CheckGreatest': WHATEVER THE INPUT: true; the input reads as it did. -/
def checkGreatestSpec : ChangeSpec := { name := "checkGreatest", fn := fun _ => fun
  | [d] => { results := [.lit (.bool true)], args := [d] }
  | _ => none }
def checkGreatestRow : OpenClaim := { program := "ytfdhelnfgfaeaaa", sum := "6eaf4771ccbfb25ec43781e771ce3e139ba8c6767de634faf248e57265d7eb5d", func := "acequia/acequialaw24.CheckGreatest", spec := "checkGreatest", unfollowed := true, recurses := true, apart := false }
def CheckGreatestSaid : Prop := checkGreatestRow.holds Try.pinned (OpenSpec.ofChange checkGreatestSpec)

/-- ITS FALSE NEIGHBOUR: 'it returns false'. Refute it at one input. -/
def checkGreatestWrong : ChangeSpec := { name := "checkGreatest", fn := fun _ => fun
  | [d] => { results := [.lit (.bool false)], args := [d] }
  | _ => none }
def CheckGreatestWrongFalsely : Prop := checkGreatestRow.holds Try.pinned (OpenSpec.ofChange checkGreatestWrong)

/-- 'acequialaw23.BackNone': WHATEVER THE INPUT: true; the input reads as it did. -/
def backNoneSpec : ChangeSpec := { name := "backNone", fn := fun _ => fun
  | [d1, d2, d3] => { results := [.lit (.bool true)], args := [d1, d2, d3] }
  | _ => none }
def backNoneRow : OpenClaim := { program := "ytfdhelnfgfaeaaa", sum := "6eaf4771ccbfb25ec43781e771ce3e139ba8c6767de634faf248e57265d7eb5d", func := "acequia/acequialaw23.BackNone", spec := "backNone", inPlace := ["slices.overlaps[int]"], unfollowed := true, recurses := true, apart := false }
def BackNoneSaid : Prop := backNoneRow.holds Try.pinned (OpenSpec.ofChange backNoneSpec)

/-- ITS FALSE NEIGHBOUR: 'it returns false'. Refute it at one input. -/
def backNoneWrong : ChangeSpec := { name := "backNone", fn := fun _ => fun
  | [d1, d2, d3] => { results := [.lit (.bool false)], args := [d1, d2, d3] }
  | _ => none }
def BackNoneWrongFalsely : Prop := backNoneRow.holds Try.pinned (OpenSpec.ofChange backNoneWrong)

/-- 'acequialaw23.BackStays': WHATEVER THE INPUT: true; the input reads as it did. -/
def backStaysSpec : ChangeSpec := { name := "backStays", fn := fun _ => fun
  | [d1, d2] => { results := [.lit (.bool true)], args := [d1, d2] }
  | _ => none }
def backStaysRow : OpenClaim := { program := "ytfdhelnfgfaeaaa", sum := "6eaf4771ccbfb25ec43781e771ce3e139ba8c6767de634faf248e57265d7eb5d", func := "acequia/acequialaw23.BackStays", spec := "backStays", inPlace := ["slices.overlaps[int]"], unfollowed := true, recurses := true, apart := false }
def BackStaysSaid : Prop := backStaysRow.holds Try.pinned (OpenSpec.ofChange backStaysSpec)

/-- ITS FALSE NEIGHBOUR: 'it returns false'. Refute it at one input. -/
def backStaysWrong : ChangeSpec := { name := "backStays", fn := fun _ => fun
  | [d1, d2] => { results := [.lit (.bool false)], args := [d1, d2] }
  | _ => none }
def BackStaysWrongFalsely : Prop := backStaysRow.holds Try.pinned (OpenSpec.ofChange backStaysWrong)

/-- 'acequialaw23.BackFlow': WHATEVER THE INPUT: true; the input reads as it did. -/
def backFlowSpec : ChangeSpec := { name := "backFlow", fn := fun _ => fun
  | [d1, d2] => { results := [.lit (.bool true)], args := [d1, d2] }
  | _ => none }
def backFlowRow : OpenClaim := { program := "ytfdhelnfgfaeaaa", sum := "6eaf4771ccbfb25ec43781e771ce3e139ba8c6767de634faf248e57265d7eb5d", func := "acequia/acequialaw23.BackFlow", spec := "backFlow", inPlace := ["slices.overlaps[int]"], unfollowed := true, recurses := true, apart := false }
def BackFlowSaid : Prop := backFlowRow.holds Try.pinned (OpenSpec.ofChange backFlowSpec)

/-- ITS FALSE NEIGHBOUR: 'it returns false'. Refute it at one input. -/
def backFlowWrong : ChangeSpec := { name := "backFlow", fn := fun _ => fun
  | [d1, d2] => { results := [.lit (.bool false)], args := [d1, d2] }
  | _ => none }
def BackFlowWrongFalsely : Prop := backFlowRow.holds Try.pinned (OpenSpec.ofChange backFlowWrong)

/-- 'acequialaw23.BackCut': WHATEVER THE INPUT: true; the input reads as it did. -/
def backCutSpec : ChangeSpec := { name := "backCut", fn := fun _ => fun
  | [d1, d2, d3] => { results := [.lit (.bool true)], args := [d1, d2, d3] }
  | _ => none }
def backCutRow : OpenClaim := { program := "ytfdhelnfgfaeaaa", sum := "6eaf4771ccbfb25ec43781e771ce3e139ba8c6767de634faf248e57265d7eb5d", func := "acequia/acequialaw23.BackCut", spec := "backCut", inPlace := ["slices.overlaps[int]"], unfollowed := true, recurses := true, apart := false }
def BackCutSaid : Prop := backCutRow.holds Try.pinned (OpenSpec.ofChange backCutSpec)

/-- ITS FALSE NEIGHBOUR: 'it returns false'. Refute it at one input. -/
def backCutWrong : ChangeSpec := { name := "backCut", fn := fun _ => fun
  | [d1, d2, d3] => { results := [.lit (.bool false)], args := [d1, d2, d3] }
  | _ => none }
def BackCutWrongFalsely : Prop := backCutRow.holds Try.pinned (OpenSpec.ofChange backCutWrong)

/- THE SECOND FORM. 'bulk': how many values and letters a reading holds, each counted each time it is reached (what is shared counts as often as it is met; a slice's spare places count too). A statement '..UptoSaid' is the law's where the arguments, and the package variables that the reading takes, are together of bulk at most 1048576: NARROWER than '..Said'. Prove '..Said' where nothing that the law and all that it calls make is longer than what came in: it says more and counts as full. Else prove '..UptoSaid'. A law counts once. -/
mutual
def uptoBulk {H : Type} : DataW H → Nat
  | .lit (.string bytes) => bytes.length + 1
  | .lit _ => 1
  | .nil => 1
  | .ptr d => uptoBulk d + 1
  | .slice elems spare => uptoBulkAll elems + uptoBulkAll spare + 1
  | .agg parts => uptoBulkAll parts + 1
  | .iface _ d => uptoBulk d + 1
  | .map entries => uptoBulkEntries entries + 1
  | .held _ => 1
def uptoBulkAll {H : Type} : List (DataW H) → Nat
  | [] => 0
  | d :: r => uptoBulk d + uptoBulkAll r
def uptoBulkEntries {H : Type} : List (Lit × DataW H) → Nat
  | [] => 0
  | x :: r => uptoBulkEntry x + uptoBulkEntries r
def uptoBulkEntry {H : Type} : Lit × DataW H → Nat
  | (.string bytes, d) => bytes.length + uptoBulk d + 1
  | (_, d) => uptoBulk d + 1
 end
def uptoSmall : (H : Type) → List (DataW H) → Bool := fun _ ds => decide (uptoBulkAll ds ≤ 1048576)
def OpenSpec.upto (s : _root_.Go.ChangeSpec) : _root_.Go.OpenSpec := { _root_.Go.OpenSpec.ofChange s with cond := some uptoSmall }

/-- 'acequialaw24.CheckSpoilt', WHERE WHAT IT READS IS OF BULK AT MOST 1048576: true; the input reads as it did. -/
def checkSpoiltUptoRow : OpenClaim := { program := "ytfdhelnfgfaeaaa", sum := "6eaf4771ccbfb25ec43781e771ce3e139ba8c6767de634faf248e57265d7eb5d", func := "acequia/acequialaw24.CheckSpoilt", spec := "checkSpoilt", unfollowed := true, recurses := true, apart := false, narrowed := true }
def CheckSpoiltUptoSaid : Prop := checkSpoiltUptoRow.holds Try.pinned (OpenSpec.upto checkSpoiltSpec)

/-- 'acequialaw22.CyclesFinds', WHERE WHAT IT READS IS OF BULK AT MOST 1048576: true; the input reads as it did. -/
def cyclesFindsUptoRow : OpenClaim := { program := "ytfdhelnfgfaeaaa", sum := "6eaf4771ccbfb25ec43781e771ce3e139ba8c6767de634faf248e57265d7eb5d", func := "acequia/acequialaw22.CyclesFinds", spec := "cyclesFinds", inPlace := ["slices.overlaps[int]"], unfollowed := true, recurses := true, apart := false, narrowed := true }
def CyclesFindsUptoSaid : Prop := cyclesFindsUptoRow.holds Try.pinned (OpenSpec.upto cyclesFindsSpec)

/-- 'acequialaw22.CyclesNone', WHERE WHAT IT READS IS OF BULK AT MOST 1048576: true; the input reads as it did. -/
def cyclesNoneUptoRow : OpenClaim := { program := "ytfdhelnfgfaeaaa", sum := "6eaf4771ccbfb25ec43781e771ce3e139ba8c6767de634faf248e57265d7eb5d", func := "acequia/acequialaw22.CyclesNone", spec := "cyclesNone", inPlace := ["slices.overlaps[int]"], unfollowed := true, recurses := true, apart := false, narrowed := true }
def CyclesNoneUptoSaid : Prop := cyclesNoneUptoRow.holds Try.pinned (OpenSpec.upto cyclesNoneSpec)

/-- 'acequialaw22.CyclesKeeps', WHERE WHAT IT READS IS OF BULK AT MOST 1048576: true; the input reads as it did. -/
def cyclesKeepsUptoRow : OpenClaim := { program := "ytfdhelnfgfaeaaa", sum := "6eaf4771ccbfb25ec43781e771ce3e139ba8c6767de634faf248e57265d7eb5d", func := "acequia/acequialaw22.CyclesKeeps", spec := "cyclesKeeps", inPlace := ["slices.overlaps[int]"], unfollowed := true, recurses := true, apart := false, narrowed := true }
def CyclesKeepsUptoSaid : Prop := cyclesKeepsUptoRow.holds Try.pinned (OpenSpec.upto cyclesKeepsSpec)

/-- 'acequialaw22.CyclesRound', WHERE WHAT IT READS IS OF BULK AT MOST 1048576: true; the input reads as it did. -/
def cyclesRoundUptoRow : OpenClaim := { program := "ytfdhelnfgfaeaaa", sum := "6eaf4771ccbfb25ec43781e771ce3e139ba8c6767de634faf248e57265d7eb5d", func := "acequia/acequialaw22.CyclesRound", spec := "cyclesRound", inPlace := ["slices.overlaps[int]"], unfollowed := true, recurses := true, apart := false, narrowed := true }
def CyclesRoundUptoSaid : Prop := cyclesRoundUptoRow.holds Try.pinned (OpenSpec.upto cyclesRoundSpec)

/-- 'acequialaw24.CheckFlows', WHERE WHAT IT READS IS OF BULK AT MOST 1048576: true; the input reads as it did. -/
def checkFlowsUptoRow : OpenClaim := { program := "ytfdhelnfgfaeaaa", sum := "6eaf4771ccbfb25ec43781e771ce3e139ba8c6767de634faf248e57265d7eb5d", func := "acequia/acequialaw24.CheckFlows", spec := "checkFlows", unfollowed := true, recurses := true, apart := false, narrowed := true }
def CheckFlowsUptoSaid : Prop := checkFlowsUptoRow.holds Try.pinned (OpenSpec.upto checkFlowsSpec)

/-- 'acequialaw24.CheckBest', WHERE WHAT IT READS IS OF BULK AT MOST 1048576: true; the input reads as it did. -/
def checkBestUptoRow : OpenClaim := { program := "ytfdhelnfgfaeaaa", sum := "6eaf4771ccbfb25ec43781e771ce3e139ba8c6767de634faf248e57265d7eb5d", func := "acequia/acequialaw24.CheckBest", spec := "checkBest", unfollowed := true, recurses := true, apart := false, narrowed := true }
def CheckBestUptoSaid : Prop := checkBestUptoRow.holds Try.pinned (OpenSpec.upto checkBestSpec)

/-- 'acequialaw24.CheckGreatest', WHERE WHAT IT READS IS OF BULK AT MOST 1048576: true; the input reads as it did. -/
def checkGreatestUptoRow : OpenClaim := { program := "ytfdhelnfgfaeaaa", sum := "6eaf4771ccbfb25ec43781e771ce3e139ba8c6767de634faf248e57265d7eb5d", func := "acequia/acequialaw24.CheckGreatest", spec := "checkGreatest", unfollowed := true, recurses := true, apart := false, narrowed := true }
def CheckGreatestUptoSaid : Prop := checkGreatestUptoRow.holds Try.pinned (OpenSpec.upto checkGreatestSpec)

/-- 'acequialaw23.BackNone', WHERE WHAT IT READS IS OF BULK AT MOST 1048576: true; the input reads as it did. -/
def backNoneUptoRow : OpenClaim := { program := "ytfdhelnfgfaeaaa", sum := "6eaf4771ccbfb25ec43781e771ce3e139ba8c6767de634faf248e57265d7eb5d", func := "acequia/acequialaw23.BackNone", spec := "backNone", inPlace := ["slices.overlaps[int]"], unfollowed := true, recurses := true, apart := false, narrowed := true }
def BackNoneUptoSaid : Prop := backNoneUptoRow.holds Try.pinned (OpenSpec.upto backNoneSpec)

/-- 'acequialaw23.BackStays', WHERE WHAT IT READS IS OF BULK AT MOST 1048576: true; the input reads as it did. -/
def backStaysUptoRow : OpenClaim := { program := "ytfdhelnfgfaeaaa", sum := "6eaf4771ccbfb25ec43781e771ce3e139ba8c6767de634faf248e57265d7eb5d", func := "acequia/acequialaw23.BackStays", spec := "backStays", inPlace := ["slices.overlaps[int]"], unfollowed := true, recurses := true, apart := false, narrowed := true }
def BackStaysUptoSaid : Prop := backStaysUptoRow.holds Try.pinned (OpenSpec.upto backStaysSpec)

/-- 'acequialaw23.BackFlow', WHERE WHAT IT READS IS OF BULK AT MOST 1048576: true; the input reads as it did. -/
def backFlowUptoRow : OpenClaim := { program := "ytfdhelnfgfaeaaa", sum := "6eaf4771ccbfb25ec43781e771ce3e139ba8c6767de634faf248e57265d7eb5d", func := "acequia/acequialaw23.BackFlow", spec := "backFlow", inPlace := ["slices.overlaps[int]"], unfollowed := true, recurses := true, apart := false, narrowed := true }
def BackFlowUptoSaid : Prop := backFlowUptoRow.holds Try.pinned (OpenSpec.upto backFlowSpec)

/-- 'acequialaw23.BackCut', WHERE WHAT IT READS IS OF BULK AT MOST 1048576: true; the input reads as it did. -/
def backCutUptoRow : OpenClaim := { program := "ytfdhelnfgfaeaaa", sum := "6eaf4771ccbfb25ec43781e771ce3e139ba8c6767de634faf248e57265d7eb5d", func := "acequia/acequialaw23.BackCut", spec := "backCut", inPlace := ["slices.overlaps[int]"], unfollowed := true, recurses := true, apart := false, narrowed := true }
def BackCutUptoSaid : Prop := backCutUptoRow.holds Try.pinned (OpenSpec.upto backCutSpec)

end Rows
end Go.Proofs.Ytfdhelnfgfaeaaa
