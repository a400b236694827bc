/-
  No cell of these rows narrows 'for every input' (looked for: loops, veiled, ifaces, maps, wideKeys, modest, calm, conditions, laid).
  DERIVED. THE GIVEN ROWS OF THIS SEAT. 14 by the template 'for every input the law returns true; each argument reads behind the call as it read before'; 0 by the template 'total and deterministic' (their statements: YtcdbemdogkmahaaTotals.lean).
  GIVEN WITH THE SEED: the statements are not yours to turn. If you find one false, say at which input.
  Laid BY PROGRAM, IN A SANDBOX (cutbox-rows.mjs): the forced cells as the released guide's own fill.sh prints them over the translation b859febe2a0b5a77… (all of the seat's roots in one cut). By AI agents, Wed Nov 11 2026. No macro, syntax, notation, axiom, sorry.
-/
import Derived.Test.YtcdbemdogkmahaaChecked
import GoSem.Claim
import GoSem.ClaimJoined
import GoSem.ClaimMapViews
import Derived.JoinedTies
import Derived.KernelRfl
namespace Go.Proofs.Ytcdbemdogkmahaa
/- THE CELL 'sum', in the pinned program and in every row, IS THE sha256 OF THE DUMP (.gsa) THAT YtcdbemdogkmahaaProg.lean LOADS. Nothing in Lean hashes anything: it is a label: what it is worth is what the hold of that sum in a sandbox is worth. -/
noncomputable def Try.pinned : Pinned := { name := "ytcdbemdogkmahaa", sum := "b859febe2a0b5a77b5fd0b9d5c8cc91efd45e73c222b26800edcde957ee5953a", checked := Try.checked }
namespace Rows
def none {H : Type} : Left H := { results := [], args := [] }

/-- 'acequialaw02.CsrTurns': WHATEVER THE INPUT: true; the input reads as it did. -/
def csrTurnsSpec : ChangeSpec := { name := "csrTurns", fn := fun _ => fun
  | [d1, d2] => { results := [.lit (.bool true)], args := [d1, d2] }
  | _ => none }
def csrTurnsRow : OpenClaim := { program := "ytcdbemdogkmahaa", sum := "b859febe2a0b5a77b5fd0b9d5c8cc91efd45e73c222b26800edcde957ee5953a", func := "acequia/acequialaw02.CsrTurns", spec := "csrTurns", unfollowed := true, recurses := true, apart := false }
def CsrTurnsSaid : Prop := csrTurnsRow.holds Try.pinned (OpenSpec.ofChange csrTurnsSpec)

/-- ITS FALSE NEIGHBOUR: 'it returns false'. Refute it at one input. -/
def csrTurnsWrong : ChangeSpec := { name := "csrTurns", fn := fun _ => fun
  | [d1, d2] => { results := [.lit (.bool false)], args := [d1, d2] }
  | _ => none }
def CsrTurnsWrongFalsely : Prop := csrTurnsRow.holds Try.pinned (OpenSpec.ofChange csrTurnsWrong)

/-- 'acequialaw02.CsrBack': WHATEVER THE INPUT: true; the input reads as it did. -/
def csrBackSpec : ChangeSpec := { name := "csrBack", fn := fun _ => fun
  | [d1, d2, d3, d4] => { results := [.lit (.bool true)], args := [d1, d2, d3, d4] }
  | _ => none }
def csrBackRow : OpenClaim := { program := "ytcdbemdogkmahaa", sum := "b859febe2a0b5a77b5fd0b9d5c8cc91efd45e73c222b26800edcde957ee5953a", func := "acequia/acequialaw02.CsrBack", spec := "csrBack", unfollowed := true, recurses := true, apart := false }
def CsrBackSaid : Prop := csrBackRow.holds Try.pinned (OpenSpec.ofChange csrBackSpec)

/-- ITS FALSE NEIGHBOUR: 'it returns false'. Refute it at one input. -/
def csrBackWrong : ChangeSpec := { name := "csrBack", fn := fun _ => fun
  | [d1, d2, d3, d4] => { results := [.lit (.bool false)], args := [d1, d2, d3, d4] }
  | _ => none }
def CsrBackWrongFalsely : Prop := csrBackRow.holds Try.pinned (OpenSpec.ofChange csrBackWrong)

/-- 'acequialaw02.CsrPairs': WHATEVER THE INPUT: true; the input reads as it did. -/
def csrPairsSpec : ChangeSpec := { name := "csrPairs", fn := fun _ => fun
  | [d] => { results := [.lit (.bool true)], args := [d] }
  | _ => none }
def csrPairsRow : OpenClaim := { program := "ytcdbemdogkmahaa", sum := "b859febe2a0b5a77b5fd0b9d5c8cc91efd45e73c222b26800edcde957ee5953a", func := "acequia/acequialaw02.CsrPairs", spec := "csrPairs", unfollowed := true, recurses := true, apart := false }
def CsrPairsSaid : Prop := csrPairsRow.holds Try.pinned (OpenSpec.ofChange csrPairsSpec)

/-- ITS FALSE NEIGHBOUR: 'it returns false'. Refute it at one input. -/
def csrPairsWrong : ChangeSpec := { name := "csrPairs", fn := fun _ => fun
  | [d] => { results := [.lit (.bool false)], args := [d] }
  | _ => none }
def CsrPairsWrongFalsely : Prop := csrPairsRow.holds Try.pinned (OpenSpec.ofChange csrPairsWrong)

/-- 'acequialaw03.FlowSums': WHATEVER THE INPUT: true; the input reads as it did. -/
def flowSumsSpec : ChangeSpec := { name := "flowSums", fn := fun _ => fun
  | [d1, d2] => { results := [.lit (.bool true)], args := [d1, d2] }
  | _ => none }
def flowSumsRow : OpenClaim := { program := "ytcdbemdogkmahaa", sum := "b859febe2a0b5a77b5fd0b9d5c8cc91efd45e73c222b26800edcde957ee5953a", func := "acequia/acequialaw03.FlowSums", spec := "flowSums", unfollowed := true, recurses := true, apart := false }
def FlowSumsSaid : Prop := flowSumsRow.holds Try.pinned (OpenSpec.ofChange flowSumsSpec)

/-- ITS FALSE NEIGHBOUR: 'it returns false'. Refute it at one input. -/
def flowSumsWrong : ChangeSpec := { name := "flowSums", fn := fun _ => fun
  | [d1, d2] => { results := [.lit (.bool false)], args := [d1, d2] }
  | _ => none }
def FlowSumsWrongFalsely : Prop := flowSumsRow.holds Try.pinned (OpenSpec.ofChange flowSumsWrong)

/-- 'acequialaw03.FlowSends': WHATEVER THE INPUT: true; the input reads as it did. -/
def flowSendsSpec : ChangeSpec := { name := "flowSends", fn := fun _ => fun
  | [d1, d2, d3, d4, d5] => { results := [.lit (.bool true)], args := [d1, d2, d3, d4, d5] }
  | _ => none }
def flowSendsRow : OpenClaim := { program := "ytcdbemdogkmahaa", sum := "b859febe2a0b5a77b5fd0b9d5c8cc91efd45e73c222b26800edcde957ee5953a", func := "acequia/acequialaw03.FlowSends", spec := "flowSends", unfollowed := true, recurses := true, apart := false }
def FlowSendsSaid : Prop := flowSendsRow.holds Try.pinned (OpenSpec.ofChange flowSendsSpec)

/-- ITS FALSE NEIGHBOUR: 'it returns false'. Refute it at one input. -/
def flowSendsWrong : ChangeSpec := { name := "flowSends", fn := fun _ => fun
  | [d1, d2, d3, d4, d5] => { results := [.lit (.bool false)], args := [d1, d2, d3, d4, d5] }
  | _ => none }
def FlowSendsWrongFalsely : Prop := flowSendsRow.holds Try.pinned (OpenSpec.ofChange flowSendsWrong)

/-- 'acequialaw03.FlowWays': WHATEVER THE INPUT: true; the input reads as it did. -/
def flowWaysSpec : ChangeSpec := { name := "flowWays", fn := fun _ => fun
  | [d1, d2, d3, d4, d5] => { results := [.lit (.bool true)], args := [d1, d2, d3, d4, d5] }
  | _ => none }
def flowWaysRow : OpenClaim := { program := "ytcdbemdogkmahaa", sum := "b859febe2a0b5a77b5fd0b9d5c8cc91efd45e73c222b26800edcde957ee5953a", func := "acequia/acequialaw03.FlowWays", spec := "flowWays", unfollowed := true, recurses := true, apart := false }
def FlowWaysSaid : Prop := flowWaysRow.holds Try.pinned (OpenSpec.ofChange flowWaysSpec)

/-- ITS FALSE NEIGHBOUR: 'it returns false'. Refute it at one input. -/
def flowWaysWrong : ChangeSpec := { name := "flowWays", fn := fun _ => fun
  | [d1, d2, d3, d4, d5] => { results := [.lit (.bool false)], args := [d1, d2, d3, d4, d5] }
  | _ => none }
def FlowWaysWrongFalsely : Prop := flowWaysRow.holds Try.pinned (OpenSpec.ofChange flowWaysWrong)

/-- 'acequialaw03.FlowAdds': WHATEVER THE INPUT: true; the input reads as it did. -/
def flowAddsSpec : ChangeSpec := { name := "flowAdds", fn := fun _ => fun
  | [d1, d2, d3] => { results := [.lit (.bool true)], args := [d1, d2, d3] }
  | _ => none }
def flowAddsRow : OpenClaim := { program := "ytcdbemdogkmahaa", sum := "b859febe2a0b5a77b5fd0b9d5c8cc91efd45e73c222b26800edcde957ee5953a", func := "acequia/acequialaw03.FlowAdds", spec := "flowAdds", unfollowed := true, recurses := true, apart := false }
def FlowAddsSaid : Prop := flowAddsRow.holds Try.pinned (OpenSpec.ofChange flowAddsSpec)

/-- ITS FALSE NEIGHBOUR: 'it returns false'. Refute it at one input. -/
def flowAddsWrong : ChangeSpec := { name := "flowAdds", fn := fun _ => fun
  | [d1, d2, d3] => { results := [.lit (.bool false)], args := [d1, d2, d3] }
  | _ => none }
def FlowAddsWrongFalsely : Prop := flowAddsRow.holds Try.pinned (OpenSpec.ofChange flowAddsWrong)

/-- 'acequialaw03.FlowTurns': WHATEVER THE INPUT: true; the input reads as it did. -/
def flowTurnsSpec : ChangeSpec := { name := "flowTurns", fn := fun _ => fun
  | [d1, d2, d3] => { results := [.lit (.bool true)], args := [d1, d2, d3] }
  | _ => none }
def flowTurnsRow : OpenClaim := { program := "ytcdbemdogkmahaa", sum := "b859febe2a0b5a77b5fd0b9d5c8cc91efd45e73c222b26800edcde957ee5953a", func := "acequia/acequialaw03.FlowTurns", spec := "flowTurns", unfollowed := true, recurses := true, apart := false }
def FlowTurnsSaid : Prop := flowTurnsRow.holds Try.pinned (OpenSpec.ofChange flowTurnsSpec)

/-- ITS FALSE NEIGHBOUR: 'it returns false'. Refute it at one input. -/
def flowTurnsWrong : ChangeSpec := { name := "flowTurns", fn := fun _ => fun
  | [d1, d2, d3] => { results := [.lit (.bool false)], args := [d1, d2, d3] }
  | _ => none }
def FlowTurnsWrongFalsely : Prop := flowTurnsRow.holds Try.pinned (OpenSpec.ofChange flowTurnsWrong)

/-- 'acequialaw02.CsrRows': WHATEVER THE INPUT: true; the input reads as it did. -/
def csrRowsSpec : ChangeSpec := { name := "csrRows", fn := fun _ => fun
  | [d] => { results := [.lit (.bool true)], args := [d] }
  | _ => none }
def csrRowsRow : OpenClaim := { program := "ytcdbemdogkmahaa", sum := "b859febe2a0b5a77b5fd0b9d5c8cc91efd45e73c222b26800edcde957ee5953a", func := "acequia/acequialaw02.CsrRows", spec := "csrRows", unfollowed := true, recurses := true, apart := false }
def CsrRowsSaid : Prop := csrRowsRow.holds Try.pinned (OpenSpec.ofChange csrRowsSpec)

/-- ITS FALSE NEIGHBOUR: 'it returns false'. Refute it at one input. -/
def csrRowsWrong : ChangeSpec := { name := "csrRows", fn := fun _ => fun
  | [d] => { results := [.lit (.bool false)], args := [d] }
  | _ => none }
def CsrRowsWrongFalsely : Prop := csrRowsRow.holds Try.pinned (OpenSpec.ofChange csrRowsWrong)

/-- 'acequialaw04.CutReach': WHATEVER THE INPUT: true; the input reads as it did. -/
def cutReachSpec : ChangeSpec := { name := "cutReach", fn := fun _ => fun
  | [d1, d2] => { results := [.lit (.bool true)], args := [d1, d2] }
  | _ => none }
def cutReachRow : OpenClaim := { program := "ytcdbemdogkmahaa", sum := "b859febe2a0b5a77b5fd0b9d5c8cc91efd45e73c222b26800edcde957ee5953a", func := "acequia/acequialaw04.CutReach", spec := "cutReach", unfollowed := true, recurses := true, apart := false }
def CutReachSaid : Prop := cutReachRow.holds Try.pinned (OpenSpec.ofChange cutReachSpec)

/-- ITS FALSE NEIGHBOUR: 'it returns false'. Refute it at one input. -/
def cutReachWrong : ChangeSpec := { name := "cutReach", fn := fun _ => fun
  | [d1, d2] => { results := [.lit (.bool false)], args := [d1, d2] }
  | _ => none }
def CutReachWrongFalsely : Prop := cutReachRow.holds Try.pinned (OpenSpec.ofChange cutReachWrong)

/-- 'acequialaw04.CutSides': WHATEVER THE INPUT: true; the input reads as it did. -/
def cutSidesSpec : ChangeSpec := { name := "cutSides", fn := fun _ => fun
  | [d1, d2, d3] => { results := [.lit (.bool true)], args := [d1, d2, d3] }
  | _ => none }
def cutSidesRow : OpenClaim := { program := "ytcdbemdogkmahaa", sum := "b859febe2a0b5a77b5fd0b9d5c8cc91efd45e73c222b26800edcde957ee5953a", func := "acequia/acequialaw04.CutSides", spec := "cutSides", unfollowed := true, recurses := true, apart := false }
def CutSidesSaid : Prop := cutSidesRow.holds Try.pinned (OpenSpec.ofChange cutSidesSpec)

/-- ITS FALSE NEIGHBOUR: 'it returns false'. Refute it at one input. -/
def cutSidesWrong : ChangeSpec := { name := "cutSides", fn := fun _ => fun
  | [d1, d2, d3] => { results := [.lit (.bool false)], args := [d1, d2, d3] }
  | _ => none }
def CutSidesWrongFalsely : Prop := cutSidesRow.holds Try.pinned (OpenSpec.ofChange cutSidesWrong)

/-- 'acequialaw04.CutPairs': WHATEVER THE INPUT: true; the input reads as it did. -/
def cutPairsSpec : ChangeSpec := { name := "cutPairs", fn := fun _ => fun
  | [d1, d2, d3] => { results := [.lit (.bool true)], args := [d1, d2, d3] }
  | _ => none }
def cutPairsRow : OpenClaim := { program := "ytcdbemdogkmahaa", sum := "b859febe2a0b5a77b5fd0b9d5c8cc91efd45e73c222b26800edcde957ee5953a", func := "acequia/acequialaw04.CutPairs", spec := "cutPairs", unfollowed := true, recurses := true, apart := false }
def CutPairsSaid : Prop := cutPairsRow.holds Try.pinned (OpenSpec.ofChange cutPairsSpec)

/-- ITS FALSE NEIGHBOUR: 'it returns false'. Refute it at one input. -/
def cutPairsWrong : ChangeSpec := { name := "cutPairs", fn := fun _ => fun
  | [d1, d2, d3] => { results := [.lit (.bool false)], args := [d1, d2, d3] }
  | _ => none }
def CutPairsWrongFalsely : Prop := cutPairsRow.holds Try.pinned (OpenSpec.ofChange cutPairsWrong)

/-- 'acequialaw04.CutAcross': WHATEVER THE INPUT: true; the input reads as it did. -/
def cutAcrossSpec : ChangeSpec := { name := "cutAcross", fn := fun _ => fun
  | [d1, d2, d3] => { results := [.lit (.bool true)], args := [d1, d2, d3] }
  | _ => none }
def cutAcrossRow : OpenClaim := { program := "ytcdbemdogkmahaa", sum := "b859febe2a0b5a77b5fd0b9d5c8cc91efd45e73c222b26800edcde957ee5953a", func := "acequia/acequialaw04.CutAcross", spec := "cutAcross", unfollowed := true, recurses := true, apart := false }
def CutAcrossSaid : Prop := cutAcrossRow.holds Try.pinned (OpenSpec.ofChange cutAcrossSpec)

/-- ITS FALSE NEIGHBOUR: 'it returns false'. Refute it at one input. -/
def cutAcrossWrong : ChangeSpec := { name := "cutAcross", fn := fun _ => fun
  | [d1, d2, d3] => { results := [.lit (.bool false)], args := [d1, d2, d3] }
  | _ => none }
def CutAcrossWrongFalsely : Prop := cutAcrossRow.holds Try.pinned (OpenSpec.ofChange cutAcrossWrong)

/-- 'acequialaw04.CutGreatest': WHATEVER THE INPUT: true; the input reads as it did. -/
def cutGreatestSpec : ChangeSpec := { name := "cutGreatest", fn := fun _ => fun
  | [d1, d2] => { results := [.lit (.bool true)], args := [d1, d2] }
  | _ => none }
def cutGreatestRow : OpenClaim := { program := "ytcdbemdogkmahaa", sum := "b859febe2a0b5a77b5fd0b9d5c8cc91efd45e73c222b26800edcde957ee5953a", func := "acequia/acequialaw04.CutGreatest", spec := "cutGreatest", unfollowed := true, recurses := true, apart := false }
def CutGreatestSaid : Prop := cutGreatestRow.holds Try.pinned (OpenSpec.ofChange cutGreatestSpec)

/-- ITS FALSE NEIGHBOUR: 'it returns false'. Refute it at one input. -/
def cutGreatestWrong : ChangeSpec := { name := "cutGreatest", fn := fun _ => fun
  | [d1, d2] => { results := [.lit (.bool false)], args := [d1, d2] }
  | _ => none }
def CutGreatestWrongFalsely : Prop := cutGreatestRow.holds Try.pinned (OpenSpec.ofChange cutGreatestWrong)

/- THE SECOND FORM. 'bulk': how many values and letters a reading holds, each counted each time it is reached (what is shared counts as often as it is met; a slice's spare places count too). A statement '..UptoSaid' is the law's where the arguments, and the package variables that the reading takes, are together of bulk at most 1048576: NARROWER than '..Said'. Prove '..Said' where nothing that the law and all that it calls make is longer than what came in: it says more and counts as full. Else prove '..UptoSaid'. A law counts once. -/
mutual
def uptoBulk {H : Type} : DataW H → Nat
  | .lit (.string bytes) => bytes.length + 1
  | .lit _ => 1
  | .nil => 1
  | .ptr d => uptoBulk d + 1
  | .slice elems spare => uptoBulkAll elems + uptoBulkAll spare + 1
  | .agg parts => uptoBulkAll parts + 1
  | .iface _ d => uptoBulk d + 1
  | .map entries => uptoBulkEntries entries + 1
  | .held _ => 1
def uptoBulkAll {H : Type} : List (DataW H) → Nat
  | [] => 0
  | d :: r => uptoBulk d + uptoBulkAll r
def uptoBulkEntries {H : Type} : List (Lit × DataW H) → Nat
  | [] => 0
  | x :: r => uptoBulkEntry x + uptoBulkEntries r
def uptoBulkEntry {H : Type} : Lit × DataW H → Nat
  | (.string bytes, d) => bytes.length + uptoBulk d + 1
  | (_, d) => uptoBulk d + 1
 end
def uptoSmall : (H : Type) → List (DataW H) → Bool := fun _ ds => decide (uptoBulkAll ds ≤ 1048576)
def OpenSpec.upto (s : _root_.Go.ChangeSpec) : _root_.Go.OpenSpec := { _root_.Go.OpenSpec.ofChange s with cond := some uptoSmall }

/-- 'acequialaw02.CsrTurns', WHERE WHAT IT READS IS OF BULK AT MOST 1048576: true; the input reads as it did. -/
def csrTurnsUptoRow : OpenClaim := { program := "ytcdbemdogkmahaa", sum := "b859febe2a0b5a77b5fd0b9d5c8cc91efd45e73c222b26800edcde957ee5953a", func := "acequia/acequialaw02.CsrTurns", spec := "csrTurns", unfollowed := true, recurses := true, apart := false, narrowed := true }
def CsrTurnsUptoSaid : Prop := csrTurnsUptoRow.holds Try.pinned (OpenSpec.upto csrTurnsSpec)

/-- 'acequialaw02.CsrBack', WHERE WHAT IT READS IS OF BULK AT MOST 1048576: true; the input reads as it did. -/
def csrBackUptoRow : OpenClaim := { program := "ytcdbemdogkmahaa", sum := "b859febe2a0b5a77b5fd0b9d5c8cc91efd45e73c222b26800edcde957ee5953a", func := "acequia/acequialaw02.CsrBack", spec := "csrBack", unfollowed := true, recurses := true, apart := false, narrowed := true }
def CsrBackUptoSaid : Prop := csrBackUptoRow.holds Try.pinned (OpenSpec.upto csrBackSpec)

/-- 'acequialaw02.CsrPairs', WHERE WHAT IT READS IS OF BULK AT MOST 1048576: true; the input reads as it did. -/
def csrPairsUptoRow : OpenClaim := { program := "ytcdbemdogkmahaa", sum := "b859febe2a0b5a77b5fd0b9d5c8cc91efd45e73c222b26800edcde957ee5953a", func := "acequia/acequialaw02.CsrPairs", spec := "csrPairs", unfollowed := true, recurses := true, apart := false, narrowed := true }
def CsrPairsUptoSaid : Prop := csrPairsUptoRow.holds Try.pinned (OpenSpec.upto csrPairsSpec)

/-- 'acequialaw03.FlowSums', WHERE WHAT IT READS IS OF BULK AT MOST 1048576: true; the input reads as it did. -/
def flowSumsUptoRow : OpenClaim := { program := "ytcdbemdogkmahaa", sum := "b859febe2a0b5a77b5fd0b9d5c8cc91efd45e73c222b26800edcde957ee5953a", func := "acequia/acequialaw03.FlowSums", spec := "flowSums", unfollowed := true, recurses := true, apart := false, narrowed := true }
def FlowSumsUptoSaid : Prop := flowSumsUptoRow.holds Try.pinned (OpenSpec.upto flowSumsSpec)

/-- 'acequialaw03.FlowSends', WHERE WHAT IT READS IS OF BULK AT MOST 1048576: true; the input reads as it did. -/
def flowSendsUptoRow : OpenClaim := { program := "ytcdbemdogkmahaa", sum := "b859febe2a0b5a77b5fd0b9d5c8cc91efd45e73c222b26800edcde957ee5953a", func := "acequia/acequialaw03.FlowSends", spec := "flowSends", unfollowed := true, recurses := true, apart := false, narrowed := true }
def FlowSendsUptoSaid : Prop := flowSendsUptoRow.holds Try.pinned (OpenSpec.upto flowSendsSpec)

/-- 'acequialaw03.FlowWays', WHERE WHAT IT READS IS OF BULK AT MOST 1048576: true; the input reads as it did. -/
def flowWaysUptoRow : OpenClaim := { program := "ytcdbemdogkmahaa", sum := "b859febe2a0b5a77b5fd0b9d5c8cc91efd45e73c222b26800edcde957ee5953a", func := "acequia/acequialaw03.FlowWays", spec := "flowWays", unfollowed := true, recurses := true, apart := false, narrowed := true }
def FlowWaysUptoSaid : Prop := flowWaysUptoRow.holds Try.pinned (OpenSpec.upto flowWaysSpec)

/-- 'acequialaw03.FlowAdds', WHERE WHAT IT READS IS OF BULK AT MOST 1048576: true; the input reads as it did. -/
def flowAddsUptoRow : OpenClaim := { program := "ytcdbemdogkmahaa", sum := "b859febe2a0b5a77b5fd0b9d5c8cc91efd45e73c222b26800edcde957ee5953a", func := "acequia/acequialaw03.FlowAdds", spec := "flowAdds", unfollowed := true, recurses := true, apart := false, narrowed := true }
def FlowAddsUptoSaid : Prop := flowAddsUptoRow.holds Try.pinned (OpenSpec.upto flowAddsSpec)

/-- 'acequialaw03.FlowTurns', WHERE WHAT IT READS IS OF BULK AT MOST 1048576: true; the input reads as it did. -/
def flowTurnsUptoRow : OpenClaim := { program := "ytcdbemdogkmahaa", sum := "b859febe2a0b5a77b5fd0b9d5c8cc91efd45e73c222b26800edcde957ee5953a", func := "acequia/acequialaw03.FlowTurns", spec := "flowTurns", unfollowed := true, recurses := true, apart := false, narrowed := true }
def FlowTurnsUptoSaid : Prop := flowTurnsUptoRow.holds Try.pinned (OpenSpec.upto flowTurnsSpec)

/-- 'acequialaw02.CsrRows', WHERE WHAT IT READS IS OF BULK AT MOST 1048576: true; the input reads as it did. -/
def csrRowsUptoRow : OpenClaim := { program := "ytcdbemdogkmahaa", sum := "b859febe2a0b5a77b5fd0b9d5c8cc91efd45e73c222b26800edcde957ee5953a", func := "acequia/acequialaw02.CsrRows", spec := "csrRows", unfollowed := true, recurses := true, apart := false, narrowed := true }
def CsrRowsUptoSaid : Prop := csrRowsUptoRow.holds Try.pinned (OpenSpec.upto csrRowsSpec)

/-- 'acequialaw04.CutReach', WHERE WHAT IT READS IS OF BULK AT MOST 1048576: true; the input reads as it did. -/
def cutReachUptoRow : OpenClaim := { program := "ytcdbemdogkmahaa", sum := "b859febe2a0b5a77b5fd0b9d5c8cc91efd45e73c222b26800edcde957ee5953a", func := "acequia/acequialaw04.CutReach", spec := "cutReach", unfollowed := true, recurses := true, apart := false, narrowed := true }
def CutReachUptoSaid : Prop := cutReachUptoRow.holds Try.pinned (OpenSpec.upto cutReachSpec)

/-- 'acequialaw04.CutSides', WHERE WHAT IT READS IS OF BULK AT MOST 1048576: true; the input reads as it did. -/
def cutSidesUptoRow : OpenClaim := { program := "ytcdbemdogkmahaa", sum := "b859febe2a0b5a77b5fd0b9d5c8cc91efd45e73c222b26800edcde957ee5953a", func := "acequia/acequialaw04.CutSides", spec := "cutSides", unfollowed := true, recurses := true, apart := false, narrowed := true }
def CutSidesUptoSaid : Prop := cutSidesUptoRow.holds Try.pinned (OpenSpec.upto cutSidesSpec)

/-- 'acequialaw04.CutPairs', WHERE WHAT IT READS IS OF BULK AT MOST 1048576: true; the input reads as it did. -/
def cutPairsUptoRow : OpenClaim := { program := "ytcdbemdogkmahaa", sum := "b859febe2a0b5a77b5fd0b9d5c8cc91efd45e73c222b26800edcde957ee5953a", func := "acequia/acequialaw04.CutPairs", spec := "cutPairs", unfollowed := true, recurses := true, apart := false, narrowed := true }
def CutPairsUptoSaid : Prop := cutPairsUptoRow.holds Try.pinned (OpenSpec.upto cutPairsSpec)

/-- 'acequialaw04.CutAcross', WHERE WHAT IT READS IS OF BULK AT MOST 1048576: true; the input reads as it did. -/
def cutAcrossUptoRow : OpenClaim := { program := "ytcdbemdogkmahaa", sum := "b859febe2a0b5a77b5fd0b9d5c8cc91efd45e73c222b26800edcde957ee5953a", func := "acequia/acequialaw04.CutAcross", spec := "cutAcross", unfollowed := true, recurses := true, apart := false, narrowed := true }
def CutAcrossUptoSaid : Prop := cutAcrossUptoRow.holds Try.pinned (OpenSpec.upto cutAcrossSpec)

/-- 'acequialaw04.CutGreatest', WHERE WHAT IT READS IS OF BULK AT MOST 1048576: true; the input reads as it did. -/
def cutGreatestUptoRow : OpenClaim := { program := "ytcdbemdogkmahaa", sum := "b859febe2a0b5a77b5fd0b9d5c8cc91efd45e73c222b26800edcde957ee5953a", func := "acequia/acequialaw04.CutGreatest", spec := "cutGreatest", unfollowed := true, recurses := true, apart := false, narrowed := true }
def CutGreatestUptoSaid : Prop := cutGreatestUptoRow.holds Try.pinned (OpenSpec.upto cutGreatestSpec)

end Rows
end Go.Proofs.Ytcdbemdogkmahaa
