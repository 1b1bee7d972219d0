/-
  No cell of these rows narrows 'for every input' (looked for: loops, veiled, ifaces, maps, wideKeys, modest, calm, conditions, laid).
  DERIVED. THE GIVEN ROWS OF THIS SEAT. 12 by the template 'for every input the law returns true; each argument reads behind the call as it read before'; 0 by the template 'total and deterministic' (their statements: YtgbkecenhbcihaaTotals.lean).
  GIVEN WITH THE SEED: the statements are not yours to turn. If you find one false, say at which input.
  Laid BY PROGRAM, IN A SANDBOX (cutbox-rows.mjs): the forced cells as the released guide's own fill.sh prints them over the translation 178c43fcbfce01bf… (all of the seat's roots in one cut). By AI agents, Wed Nov 11 2026. No macro, syntax, notation, axiom, sorry.
-/
import Derived.Test.YtgbkecenhbcihaaChecked
import GoSem.Claim
import GoSem.ClaimJoined
import GoSem.ClaimMapViews
import Derived.JoinedTies
import Derived.KernelRfl
namespace Go.Proofs.Ytgbkecenhbcihaa
/- THE CELL 'sum', in the pinned program and in every row, IS THE sha256 OF THE DUMP (.gsa) THAT YtgbkecenhbcihaaProg.lean LOADS. Nothing in Lean hashes anything: it is a label: what it is worth is what the hold of that sum in a sandbox is worth. -/
noncomputable def Try.pinned : Pinned := { name := "ytgbkecenhbcihaa", sum := "178c43fcbfce01bf01b77f3cdce159a57ea2ce44613b0de6a5269d869956ba26", checked := Try.checked }
namespace Rows
def none {H : Type} : Left H := { results := [], args := [] }

/-- 'laws.FnGases': WHATEVER THE INPUT: true; the input reads as it did. -/
def fnGasesSpec : ChangeSpec := { name := "fnGases", fn := fun _ => fun
  | [d1, d2] => { results := [.lit (.bool true)], args := [d1, d2] }
  | _ => none }
def fnGasesRow : OpenClaim := { program := "ytgbkecenhbcihaa", sum := "178c43fcbfce01bf01b77f3cdce159a57ea2ce44613b0de6a5269d869956ba26", func := "loop.example/g01381/laws.FnGases", spec := "fnGases", unfollowed := true, recurses := true, apart := false }
def FnGasesSaid : Prop := fnGasesRow.holds Try.pinned (OpenSpec.ofChange fnGasesSpec)

/-- ITS FALSE NEIGHBOUR: 'it returns false'. Refute it at one input. -/
def fnGasesWrong : ChangeSpec := { name := "fnGases", fn := fun _ => fun
  | [d1, d2] => { results := [.lit (.bool false)], args := [d1, d2] }
  | _ => none }
def FnGasesWrongFalsely : Prop := fnGasesRow.holds Try.pinned (OpenSpec.ofChange fnGasesWrong)

/-- 'laws.FnLearned': WHATEVER THE INPUT: true; the input reads as it did. -/
def fnLearnedSpec : ChangeSpec := { name := "fnLearned", fn := fun _ => fun
  | [d1, d2] => { results := [.lit (.bool true)], args := [d1, d2] }
  | _ => none }
def fnLearnedRow : OpenClaim := { program := "ytgbkecenhbcihaa", sum := "178c43fcbfce01bf01b77f3cdce159a57ea2ce44613b0de6a5269d869956ba26", func := "loop.example/g01381/laws.FnLearned", spec := "fnLearned", apart := false }
def FnLearnedSaid : Prop := fnLearnedRow.holds Try.pinned (OpenSpec.ofChange fnLearnedSpec)

/-- ITS FALSE NEIGHBOUR: 'it returns false'. Refute it at one input. -/
def fnLearnedWrong : ChangeSpec := { name := "fnLearned", fn := fun _ => fun
  | [d1, d2] => { results := [.lit (.bool false)], args := [d1, d2] }
  | _ => none }
def FnLearnedWrongFalsely : Prop := fnLearnedRow.holds Try.pinned (OpenSpec.ofChange fnLearnedWrong)

/-- 'laws.FnExactPhasesOf': WHATEVER THE INPUT: true; the input reads as it did. -/
def fnExactPhasesOfSpec : ChangeSpec := { name := "fnExactPhasesOf", fn := fun _ => fun
  | [d1, d2] => { results := [.lit (.bool true)], args := [d1, d2] }
  | _ => none }
def fnExactPhasesOfRow : OpenClaim := { program := "ytgbkecenhbcihaa", sum := "178c43fcbfce01bf01b77f3cdce159a57ea2ce44613b0de6a5269d869956ba26", func := "loop.example/g01381/laws.FnExactPhasesOf", spec := "fnExactPhasesOf", inPlace := ["math.Float32frombits", "math.Float64frombits", "math.Float64bits"], unfollowed := true, recurses := true, apart := false }
def FnExactPhasesOfSaid : Prop := fnExactPhasesOfRow.holds Try.pinned (OpenSpec.ofChange fnExactPhasesOfSpec)

/-- ITS FALSE NEIGHBOUR: 'it returns false'. Refute it at one input. -/
def fnExactPhasesOfWrong : ChangeSpec := { name := "fnExactPhasesOf", fn := fun _ => fun
  | [d1, d2] => { results := [.lit (.bool false)], args := [d1, d2] }
  | _ => none }
def FnExactPhasesOfWrongFalsely : Prop := fnExactPhasesOfRow.holds Try.pinned (OpenSpec.ofChange fnExactPhasesOfWrong)

/-- 'laws.FnExactRelaxFlow': WHATEVER THE INPUT: true; the input reads as it did. -/
def fnExactRelaxFlowSpec : ChangeSpec := { name := "fnExactRelaxFlow", fn := fun _ => fun
  | [d1, d2] => { results := [.lit (.bool true)], args := [d1, d2] }
  | _ => none }
def fnExactRelaxFlowRow : OpenClaim := { program := "ytgbkecenhbcihaa", sum := "178c43fcbfce01bf01b77f3cdce159a57ea2ce44613b0de6a5269d869956ba26", func := "loop.example/g01381/laws.FnExactRelaxFlow", spec := "fnExactRelaxFlow", unfollowed := true, recurses := true, apart := false }
def FnExactRelaxFlowSaid : Prop := fnExactRelaxFlowRow.holds Try.pinned (OpenSpec.ofChange fnExactRelaxFlowSpec)

/-- ITS FALSE NEIGHBOUR: 'it returns false'. Refute it at one input. -/
def fnExactRelaxFlowWrong : ChangeSpec := { name := "fnExactRelaxFlow", fn := fun _ => fun
  | [d1, d2] => { results := [.lit (.bool false)], args := [d1, d2] }
  | _ => none }
def FnExactRelaxFlowWrongFalsely : Prop := fnExactRelaxFlowRow.holds Try.pinned (OpenSpec.ofChange fnExactRelaxFlowWrong)

/-- 'laws.FnPhaseFlows': WHATEVER THE INPUT: true; the input reads as it did. -/
def fnPhaseFlowsSpec : ChangeSpec := { name := "fnPhaseFlows", fn := fun _ => fun
  | [d1, d2] => { results := [.lit (.bool true)], args := [d1, d2] }
  | _ => none }
def fnPhaseFlowsRow : OpenClaim := { program := "ytgbkecenhbcihaa", sum := "178c43fcbfce01bf01b77f3cdce159a57ea2ce44613b0de6a5269d869956ba26", func := "loop.example/g01381/laws.FnPhaseFlows", spec := "fnPhaseFlows", inPlace := ["math.Float32bits", "math.sqrt", "math.Float32frombits", "math.Float64frombits"], unfollowed := true, recurses := true, apart := false }
def FnPhaseFlowsSaid : Prop := fnPhaseFlowsRow.holds Try.pinned (OpenSpec.ofChange fnPhaseFlowsSpec)

/-- ITS FALSE NEIGHBOUR: 'it returns false'. Refute it at one input. -/
def fnPhaseFlowsWrong : ChangeSpec := { name := "fnPhaseFlows", fn := fun _ => fun
  | [d1, d2] => { results := [.lit (.bool false)], args := [d1, d2] }
  | _ => none }
def FnPhaseFlowsWrongFalsely : Prop := fnPhaseFlowsRow.holds Try.pinned (OpenSpec.ofChange fnPhaseFlowsWrong)

/-- 'laws.FnExactRunFlow': WHATEVER THE INPUT: true; the input reads as it did. -/
def fnExactRunFlowSpec : ChangeSpec := { name := "fnExactRunFlow", fn := fun _ => fun
  | [d1, d2, d3] => { results := [.lit (.bool true)], args := [d1, d2, d3] }
  | _ => none }
def fnExactRunFlowRow : OpenClaim := { program := "ytgbkecenhbcihaa", sum := "178c43fcbfce01bf01b77f3cdce159a57ea2ce44613b0de6a5269d869956ba26", func := "loop.example/g01381/laws.FnExactRunFlow", spec := "fnExactRunFlow", unfollowed := true, recurses := true, apart := false }
def FnExactRunFlowSaid : Prop := fnExactRunFlowRow.holds Try.pinned (OpenSpec.ofChange fnExactRunFlowSpec)

/-- ITS FALSE NEIGHBOUR: 'it returns false'. Refute it at one input. -/
def fnExactRunFlowWrong : ChangeSpec := { name := "fnExactRunFlow", fn := fun _ => fun
  | [d1, d2, d3] => { results := [.lit (.bool false)], args := [d1, d2, d3] }
  | _ => none }
def FnExactRunFlowWrongFalsely : Prop := fnExactRunFlowRow.holds Try.pinned (OpenSpec.ofChange fnExactRunFlowWrong)

/-- 'laws.FnTurned': WHATEVER THE INPUT: true; the input reads as it did. -/
def fnTurnedSpec : ChangeSpec := { name := "fnTurned", fn := fun _ => fun
  | [d1, d2] => { results := [.lit (.bool true)], args := [d1, d2] }
  | _ => none }
def fnTurnedRow : OpenClaim := { program := "ytgbkecenhbcihaa", sum := "178c43fcbfce01bf01b77f3cdce159a57ea2ce44613b0de6a5269d869956ba26", func := "loop.example/g01381/laws.FnTurned", spec := "fnTurned", unfollowed := true, recurses := true, apart := false }
def FnTurnedSaid : Prop := fnTurnedRow.holds Try.pinned (OpenSpec.ofChange fnTurnedSpec)

/-- ITS FALSE NEIGHBOUR: 'it returns false'. Refute it at one input. -/
def fnTurnedWrong : ChangeSpec := { name := "fnTurned", fn := fun _ => fun
  | [d1, d2] => { results := [.lit (.bool false)], args := [d1, d2] }
  | _ => none }
def FnTurnedWrongFalsely : Prop := fnTurnedRow.holds Try.pinned (OpenSpec.ofChange fnTurnedWrong)

/-- 'laws.FnSavedCells': WHATEVER THE INPUT: true; the input reads as it did. -/
def fnSavedCellsSpec : ChangeSpec := { name := "fnSavedCells", fn := fun _ => fun
  | [d1, d2] => { results := [.lit (.bool true)], args := [d1, d2] }
  | _ => none }
def fnSavedCellsRow : OpenClaim := { program := "ytgbkecenhbcihaa", sum := "178c43fcbfce01bf01b77f3cdce159a57ea2ce44613b0de6a5269d869956ba26", func := "loop.example/g01381/laws.FnSavedCells", spec := "fnSavedCells", inPlace := ["internal/abi.NoEscape", "internal/bytealg.MakeNoZero"], unfollowed := true, recurses := true, apart := false }
def FnSavedCellsSaid : Prop := fnSavedCellsRow.holds Try.pinned (OpenSpec.ofChange fnSavedCellsSpec)

/-- ITS FALSE NEIGHBOUR: 'it returns false'. Refute it at one input. -/
def fnSavedCellsWrong : ChangeSpec := { name := "fnSavedCells", fn := fun _ => fun
  | [d1, d2] => { results := [.lit (.bool false)], args := [d1, d2] }
  | _ => none }
def FnSavedCellsWrongFalsely : Prop := fnSavedCellsRow.holds Try.pinned (OpenSpec.ofChange fnSavedCellsWrong)

/-- 'laws.FnExactFlowsShared': WHATEVER THE INPUT: true; the input reads as it did. -/
def fnExactFlowsSharedSpec : ChangeSpec := { name := "fnExactFlowsShared", fn := fun _ => fun
  | [d1, d2, d3, d4] => { results := [.lit (.bool true)], args := [d1, d2, d3, d4] }
  | _ => none }
def fnExactFlowsSharedRow : OpenClaim := { program := "ytgbkecenhbcihaa", sum := "178c43fcbfce01bf01b77f3cdce159a57ea2ce44613b0de6a5269d869956ba26", func := "loop.example/g01381/laws.FnExactFlowsShared", spec := "fnExactFlowsShared", unfollowed := true, recurses := true, apart := false }
def FnExactFlowsSharedSaid : Prop := fnExactFlowsSharedRow.holds Try.pinned (OpenSpec.ofChange fnExactFlowsSharedSpec)

/-- ITS FALSE NEIGHBOUR: 'it returns false'. Refute it at one input. -/
def fnExactFlowsSharedWrong : ChangeSpec := { name := "fnExactFlowsShared", fn := fun _ => fun
  | [d1, d2, d3, d4] => { results := [.lit (.bool false)], args := [d1, d2, d3, d4] }
  | _ => none }
def FnExactFlowsSharedWrongFalsely : Prop := fnExactFlowsSharedRow.holds Try.pinned (OpenSpec.ofChange fnExactFlowsSharedWrong)

/-- 'laws.FnExactLoadSaved': WHATEVER THE INPUT: true; the input reads as it did. -/
def fnExactLoadSavedSpec : ChangeSpec := { name := "fnExactLoadSaved", fn := fun _ => fun
  | [d] => { results := [.lit (.bool true)], args := [d] }
  | _ => none }
def fnExactLoadSavedRow : OpenClaim := { program := "ytgbkecenhbcihaa", sum := "178c43fcbfce01bf01b77f3cdce159a57ea2ce44613b0de6a5269d869956ba26", func := "loop.example/g01381/laws.FnExactLoadSaved", spec := "fnExactLoadSaved", inPlace := ["internal/abi.NoEscape", "internal/bytealg.MakeNoZero"], apart := false }
def FnExactLoadSavedSaid : Prop := fnExactLoadSavedRow.holds Try.pinned (OpenSpec.ofChange fnExactLoadSavedSpec)

/-- ITS FALSE NEIGHBOUR: 'it returns false'. Refute it at one input. -/
def fnExactLoadSavedWrong : ChangeSpec := { name := "fnExactLoadSaved", fn := fun _ => fun
  | [d] => { results := [.lit (.bool false)], args := [d] }
  | _ => none }
def FnExactLoadSavedWrongFalsely : Prop := fnExactLoadSavedRow.holds Try.pinned (OpenSpec.ofChange fnExactLoadSavedWrong)

/-- 'laws.FnExactRecoverAll': WHATEVER THE INPUT: true; the input reads as it did. -/
def fnExactRecoverAllSpec : ChangeSpec := { name := "fnExactRecoverAll", fn := fun _ => fun
  | [d] => { results := [.lit (.bool true)], args := [d] }
  | _ => none }
def fnExactRecoverAllRow : OpenClaim := { program := "ytgbkecenhbcihaa", sum := "178c43fcbfce01bf01b77f3cdce159a57ea2ce44613b0de6a5269d869956ba26", func := "loop.example/g01381/laws.FnExactRecoverAll", spec := "fnExactRecoverAll", inPlace := ["internal/abi.NoEscape", "internal/bytealg.MakeNoZero"], apart := false }
def FnExactRecoverAllSaid : Prop := fnExactRecoverAllRow.holds Try.pinned (OpenSpec.ofChange fnExactRecoverAllSpec)

/-- ITS FALSE NEIGHBOUR: 'it returns false'. Refute it at one input. -/
def fnExactRecoverAllWrong : ChangeSpec := { name := "fnExactRecoverAll", fn := fun _ => fun
  | [d] => { results := [.lit (.bool false)], args := [d] }
  | _ => none }
def FnExactRecoverAllWrongFalsely : Prop := fnExactRecoverAllRow.holds Try.pinned (OpenSpec.ofChange fnExactRecoverAllWrong)

/-- 'laws.FnExactBreedOnce': WHATEVER THE INPUT: true; the input reads as it did. -/
def fnExactBreedOnceSpec : ChangeSpec := { name := "fnExactBreedOnce", fn := fun _ => fun
  | [d1, d2, d3, d4, d5, d6] => { results := [.lit (.bool true)], args := [d1, d2, d3, d4, d5, d6] }
  | _ => none }
def fnExactBreedOnceRow : OpenClaim := { program := "ytgbkecenhbcihaa", sum := "178c43fcbfce01bf01b77f3cdce159a57ea2ce44613b0de6a5269d869956ba26", func := "loop.example/g01381/laws.FnExactBreedOnce", spec := "fnExactBreedOnce", unfollowed := true, recurses := true, apart := false }
def FnExactBreedOnceSaid : Prop := fnExactBreedOnceRow.holds Try.pinned (OpenSpec.ofChange fnExactBreedOnceSpec)

/-- ITS FALSE NEIGHBOUR: 'it returns false'. Refute it at one input. -/
def fnExactBreedOnceWrong : ChangeSpec := { name := "fnExactBreedOnce", fn := fun _ => fun
  | [d1, d2, d3, d4, d5, d6] => { results := [.lit (.bool false)], args := [d1, d2, d3, d4, d5, d6] }
  | _ => none }
def FnExactBreedOnceWrongFalsely : Prop := fnExactBreedOnceRow.holds Try.pinned (OpenSpec.ofChange fnExactBreedOnceWrong)

/- THE SECOND FORM. 'bulk': how many values and letters a reading holds, each counted each time it is reached (what is shared counts as often as it is met; a slice's spare places count too). A statement '..UptoSaid' is the law's where the arguments, and the package variables that the reading takes, are together of bulk at most 1048576: NARROWER than '..Said'. Prove '..Said' where nothing that the law and all that it calls make is longer than what came in: it says more and counts as full. Else prove '..UptoSaid'. A law counts once. -/
mutual
def uptoBulk {H : Type} : DataW H → Nat
  | .lit (.string bytes) => bytes.length + 1
  | .lit _ => 1
  | .nil => 1
  | .ptr d => uptoBulk d + 1
  | .slice elems spare => uptoBulkAll elems + uptoBulkAll spare + 1
  | .agg parts => uptoBulkAll parts + 1
  | .iface _ d => uptoBulk d + 1
  | .map entries => uptoBulkEntries entries + 1
  | .held _ => 1
def uptoBulkAll {H : Type} : List (DataW H) → Nat
  | [] => 0
  | d :: r => uptoBulk d + uptoBulkAll r
def uptoBulkEntries {H : Type} : List (Lit × DataW H) → Nat
  | [] => 0
  | x :: r => uptoBulkEntry x + uptoBulkEntries r
def uptoBulkEntry {H : Type} : Lit × DataW H → Nat
  | (.string bytes, d) => bytes.length + uptoBulk d + 1
  | (_, d) => uptoBulk d + 1
 end
def uptoSmall : (H : Type) → List (DataW H) → Bool := fun _ ds => decide (uptoBulkAll ds ≤ 1048576)
def OpenSpec.upto (s : _root_.Go.ChangeSpec) : _root_.Go.OpenSpec := { _root_.Go.OpenSpec.ofChange s with cond := some uptoSmall }

/-- 'laws.FnGases', WHERE WHAT IT READS IS OF BULK AT MOST 1048576: true; the input reads as it did. -/
def fnGasesUptoRow : OpenClaim := { program := "ytgbkecenhbcihaa", sum := "178c43fcbfce01bf01b77f3cdce159a57ea2ce44613b0de6a5269d869956ba26", func := "loop.example/g01381/laws.FnGases", spec := "fnGases", unfollowed := true, recurses := true, apart := false, narrowed := true }
def FnGasesUptoSaid : Prop := fnGasesUptoRow.holds Try.pinned (OpenSpec.upto fnGasesSpec)

/-- 'laws.FnLearned', WHERE WHAT IT READS IS OF BULK AT MOST 1048576: true; the input reads as it did. -/
def fnLearnedUptoRow : OpenClaim := { program := "ytgbkecenhbcihaa", sum := "178c43fcbfce01bf01b77f3cdce159a57ea2ce44613b0de6a5269d869956ba26", func := "loop.example/g01381/laws.FnLearned", spec := "fnLearned", apart := false, narrowed := true }
def FnLearnedUptoSaid : Prop := fnLearnedUptoRow.holds Try.pinned (OpenSpec.upto fnLearnedSpec)

/-- 'laws.FnExactPhasesOf', WHERE WHAT IT READS IS OF BULK AT MOST 1048576: true; the input reads as it did. -/
def fnExactPhasesOfUptoRow : OpenClaim := { program := "ytgbkecenhbcihaa", sum := "178c43fcbfce01bf01b77f3cdce159a57ea2ce44613b0de6a5269d869956ba26", func := "loop.example/g01381/laws.FnExactPhasesOf", spec := "fnExactPhasesOf", inPlace := ["math.Float32frombits", "math.Float64frombits", "math.Float64bits"], unfollowed := true, recurses := true, apart := false, narrowed := true }
def FnExactPhasesOfUptoSaid : Prop := fnExactPhasesOfUptoRow.holds Try.pinned (OpenSpec.upto fnExactPhasesOfSpec)

/-- 'laws.FnExactRelaxFlow', WHERE WHAT IT READS IS OF BULK AT MOST 1048576: true; the input reads as it did. -/
def fnExactRelaxFlowUptoRow : OpenClaim := { program := "ytgbkecenhbcihaa", sum := "178c43fcbfce01bf01b77f3cdce159a57ea2ce44613b0de6a5269d869956ba26", func := "loop.example/g01381/laws.FnExactRelaxFlow", spec := "fnExactRelaxFlow", unfollowed := true, recurses := true, apart := false, narrowed := true }
def FnExactRelaxFlowUptoSaid : Prop := fnExactRelaxFlowUptoRow.holds Try.pinned (OpenSpec.upto fnExactRelaxFlowSpec)

/-- 'laws.FnPhaseFlows', WHERE WHAT IT READS IS OF BULK AT MOST 1048576: true; the input reads as it did. -/
def fnPhaseFlowsUptoRow : OpenClaim := { program := "ytgbkecenhbcihaa", sum := "178c43fcbfce01bf01b77f3cdce159a57ea2ce44613b0de6a5269d869956ba26", func := "loop.example/g01381/laws.FnPhaseFlows", spec := "fnPhaseFlows", inPlace := ["math.Float32bits", "math.sqrt", "math.Float32frombits", "math.Float64frombits"], unfollowed := true, recurses := true, apart := false, narrowed := true }
def FnPhaseFlowsUptoSaid : Prop := fnPhaseFlowsUptoRow.holds Try.pinned (OpenSpec.upto fnPhaseFlowsSpec)

/-- 'laws.FnExactRunFlow', WHERE WHAT IT READS IS OF BULK AT MOST 1048576: true; the input reads as it did. -/
def fnExactRunFlowUptoRow : OpenClaim := { program := "ytgbkecenhbcihaa", sum := "178c43fcbfce01bf01b77f3cdce159a57ea2ce44613b0de6a5269d869956ba26", func := "loop.example/g01381/laws.FnExactRunFlow", spec := "fnExactRunFlow", unfollowed := true, recurses := true, apart := false, narrowed := true }
def FnExactRunFlowUptoSaid : Prop := fnExactRunFlowUptoRow.holds Try.pinned (OpenSpec.upto fnExactRunFlowSpec)

/-- 'laws.FnTurned', WHERE WHAT IT READS IS OF BULK AT MOST 1048576: true; the input reads as it did. -/
def fnTurnedUptoRow : OpenClaim := { program := "ytgbkecenhbcihaa", sum := "178c43fcbfce01bf01b77f3cdce159a57ea2ce44613b0de6a5269d869956ba26", func := "loop.example/g01381/laws.FnTurned", spec := "fnTurned", unfollowed := true, recurses := true, apart := false, narrowed := true }
def FnTurnedUptoSaid : Prop := fnTurnedUptoRow.holds Try.pinned (OpenSpec.upto fnTurnedSpec)

/-- 'laws.FnSavedCells', WHERE WHAT IT READS IS OF BULK AT MOST 1048576: true; the input reads as it did. -/
def fnSavedCellsUptoRow : OpenClaim := { program := "ytgbkecenhbcihaa", sum := "178c43fcbfce01bf01b77f3cdce159a57ea2ce44613b0de6a5269d869956ba26", func := "loop.example/g01381/laws.FnSavedCells", spec := "fnSavedCells", inPlace := ["internal/abi.NoEscape", "internal/bytealg.MakeNoZero"], unfollowed := true, recurses := true, apart := false, narrowed := true }
def FnSavedCellsUptoSaid : Prop := fnSavedCellsUptoRow.holds Try.pinned (OpenSpec.upto fnSavedCellsSpec)

/-- 'laws.FnExactFlowsShared', WHERE WHAT IT READS IS OF BULK AT MOST 1048576: true; the input reads as it did. -/
def fnExactFlowsSharedUptoRow : OpenClaim := { program := "ytgbkecenhbcihaa", sum := "178c43fcbfce01bf01b77f3cdce159a57ea2ce44613b0de6a5269d869956ba26", func := "loop.example/g01381/laws.FnExactFlowsShared", spec := "fnExactFlowsShared", unfollowed := true, recurses := true, apart := false, narrowed := true }
def FnExactFlowsSharedUptoSaid : Prop := fnExactFlowsSharedUptoRow.holds Try.pinned (OpenSpec.upto fnExactFlowsSharedSpec)

/-- 'laws.FnExactLoadSaved', WHERE WHAT IT READS IS OF BULK AT MOST 1048576: true; the input reads as it did. -/
def fnExactLoadSavedUptoRow : OpenClaim := { program := "ytgbkecenhbcihaa", sum := "178c43fcbfce01bf01b77f3cdce159a57ea2ce44613b0de6a5269d869956ba26", func := "loop.example/g01381/laws.FnExactLoadSaved", spec := "fnExactLoadSaved", inPlace := ["internal/abi.NoEscape", "internal/bytealg.MakeNoZero"], apart := false, narrowed := true }
def FnExactLoadSavedUptoSaid : Prop := fnExactLoadSavedUptoRow.holds Try.pinned (OpenSpec.upto fnExactLoadSavedSpec)

/-- 'laws.FnExactRecoverAll', WHERE WHAT IT READS IS OF BULK AT MOST 1048576: true; the input reads as it did. -/
def fnExactRecoverAllUptoRow : OpenClaim := { program := "ytgbkecenhbcihaa", sum := "178c43fcbfce01bf01b77f3cdce159a57ea2ce44613b0de6a5269d869956ba26", func := "loop.example/g01381/laws.FnExactRecoverAll", spec := "fnExactRecoverAll", inPlace := ["internal/abi.NoEscape", "internal/bytealg.MakeNoZero"], apart := false, narrowed := true }
def FnExactRecoverAllUptoSaid : Prop := fnExactRecoverAllUptoRow.holds Try.pinned (OpenSpec.upto fnExactRecoverAllSpec)

/-- 'laws.FnExactBreedOnce', WHERE WHAT IT READS IS OF BULK AT MOST 1048576: true; the input reads as it did. -/
def fnExactBreedOnceUptoRow : OpenClaim := { program := "ytgbkecenhbcihaa", sum := "178c43fcbfce01bf01b77f3cdce159a57ea2ce44613b0de6a5269d869956ba26", func := "loop.example/g01381/laws.FnExactBreedOnce", spec := "fnExactBreedOnce", unfollowed := true, recurses := true, apart := false, narrowed := true }
def FnExactBreedOnceUptoSaid : Prop := fnExactBreedOnceUptoRow.holds Try.pinned (OpenSpec.upto fnExactBreedOnceSpec)

end Rows
end Go.Proofs.Ytgbkecenhbcihaa
