/-
  No cell of these rows narrows 'for every input' (looked for: loops, veiled, ifaces, maps, wideKeys, modest, calm, conditions, laid).
  DERIVED. THE GIVEN ROWS OF THIS SEAT. 9 by the template 'for every input the law returns true; each argument reads behind the call as it read before'; 0 by the template 'total and deterministic' (their statements: YtgmlecghklaomaaTotals.lean).
  GIVEN WITH THE SEED: the statements are not yours to turn. If you find one false, say at which input.
  Laid BY PROGRAM, IN A SANDBOX (cutbox-rows.mjs): the forced cells as the released guide's own fill.sh prints them over the translation fa377676363503cb… (all of the seat's roots in one cut). By AI agents, Wed Nov 11 2026. No macro, syntax, notation, axiom, sorry.
-/
import Derived.Test.YtgmlecghklaomaaChecked
import GoSem.Claim
import GoSem.ClaimJoined
import GoSem.ClaimMapViews
import Derived.JoinedTies
import Derived.KernelRfl
namespace Go.Proofs.Ytgmlecghklaomaa
/- THE CELL 'sum', in the pinned program and in every row, IS THE sha256 OF THE DUMP (.gsa) THAT YtgmlecghklaomaaProg.lean LOADS. Nothing in Lean hashes anything: it is a label: what it is worth is what the hold of that sum in a sandbox is worth. -/
noncomputable def Try.pinned : Pinned := { name := "ytgmlecghklaomaa", sum := "fa377676363503cb94e349e3376c1fb1258a3bb3bf51aed2403dae9c4bc2f7a0", checked := Try.checked }
namespace Rows
def none {H : Type} : Left H := { results := [], args := [] }

/-- 'laws.FnExactMsgOk': WHATEVER THE INPUT: true; the input reads as it did. -/
def fnExactMsgOkSpec : ChangeSpec := { name := "fnExactMsgOk", fn := fun _ => fun
  | [d] => { results := [.lit (.bool true)], args := [d] }
  | _ => none }
def fnExactMsgOkRow : OpenClaim := { program := "ytgmlecghklaomaa", sum := "fa377676363503cb94e349e3376c1fb1258a3bb3bf51aed2403dae9c4bc2f7a0", func := "loop.example/g00391/laws.FnExactMsgOk", spec := "fnExactMsgOk", apart := false }
def FnExactMsgOkSaid : Prop := fnExactMsgOkRow.holds Try.pinned (OpenSpec.ofChange fnExactMsgOkSpec)

/-- ITS FALSE NEIGHBOUR: 'it returns false'. Refute it at one input. -/
def fnExactMsgOkWrong : ChangeSpec := { name := "fnExactMsgOk", fn := fun _ => fun
  | [d] => { results := [.lit (.bool false)], args := [d] }
  | _ => none }
def FnExactMsgOkWrongFalsely : Prop := fnExactMsgOkRow.holds Try.pinned (OpenSpec.ofChange fnExactMsgOkWrong)

/-- 'laws.FnExactStoreOk': WHATEVER THE INPUT: true; the input reads as it did. -/
def fnExactStoreOkSpec : ChangeSpec := { name := "fnExactStoreOk", fn := fun _ => fun
  | [d] => { results := [.lit (.bool true)], args := [d] }
  | _ => none }
def fnExactStoreOkRow : OpenClaim := { program := "ytgmlecghklaomaa", sum := "fa377676363503cb94e349e3376c1fb1258a3bb3bf51aed2403dae9c4bc2f7a0", func := "loop.example/g00391/laws.FnExactStoreOk", spec := "fnExactStoreOk", inPlace := ["internal/bytealg.abigen_runtime_cmpstring"], unfollowed := true, recurses := true, apart := false }
def FnExactStoreOkSaid : Prop := fnExactStoreOkRow.holds Try.pinned (OpenSpec.ofChange fnExactStoreOkSpec)

/-- ITS FALSE NEIGHBOUR: 'it returns false'. Refute it at one input. -/
def fnExactStoreOkWrong : ChangeSpec := { name := "fnExactStoreOk", fn := fun _ => fun
  | [d] => { results := [.lit (.bool false)], args := [d] }
  | _ => none }
def FnExactStoreOkWrongFalsely : Prop := fnExactStoreOkRow.holds Try.pinned (OpenSpec.ofChange fnExactStoreOkWrong)

/-- 'laws.FnExactSameStore': WHATEVER THE INPUT: true; the input reads as it did. -/
def fnExactSameStoreSpec : ChangeSpec := { name := "fnExactSameStore", fn := fun _ => fun
  | [d1, d2] => { results := [.lit (.bool true)], args := [d1, d2] }
  | _ => none }
def fnExactSameStoreRow : OpenClaim := { program := "ytgmlecghklaomaa", sum := "fa377676363503cb94e349e3376c1fb1258a3bb3bf51aed2403dae9c4bc2f7a0", func := "loop.example/g00391/laws.FnExactSameStore", spec := "fnExactSameStore", inPlace := ["internal/bytealg.abigen_runtime_cmpstring"], unfollowed := true, recurses := true, apart := false }
def FnExactSameStoreSaid : Prop := fnExactSameStoreRow.holds Try.pinned (OpenSpec.ofChange fnExactSameStoreSpec)

/-- ITS FALSE NEIGHBOUR: 'it returns false'. Refute it at one input. -/
def fnExactSameStoreWrong : ChangeSpec := { name := "fnExactSameStore", fn := fun _ => fun
  | [d1, d2] => { results := [.lit (.bool false)], args := [d1, d2] }
  | _ => none }
def FnExactSameStoreWrongFalsely : Prop := fnExactSameStoreRow.holds Try.pinned (OpenSpec.ofChange fnExactSameStoreWrong)

/-- 'laws.FnExactDeltaOk': WHATEVER THE INPUT: true; the input reads as it did. -/
def fnExactDeltaOkSpec : ChangeSpec := { name := "fnExactDeltaOk", fn := fun _ => fun
  | [d] => { results := [.lit (.bool true)], args := [d] }
  | _ => none }
def fnExactDeltaOkRow : OpenClaim := { program := "ytgmlecghklaomaa", sum := "fa377676363503cb94e349e3376c1fb1258a3bb3bf51aed2403dae9c4bc2f7a0", func := "loop.example/g00391/laws.FnExactDeltaOk", spec := "fnExactDeltaOk", inPlace := ["internal/bytealg.abigen_runtime_cmpstring"], unfollowed := true, recurses := true, apart := false }
def FnExactDeltaOkSaid : Prop := fnExactDeltaOkRow.holds Try.pinned (OpenSpec.ofChange fnExactDeltaOkSpec)

/-- ITS FALSE NEIGHBOUR: 'it returns false'. Refute it at one input. -/
def fnExactDeltaOkWrong : ChangeSpec := { name := "fnExactDeltaOk", fn := fun _ => fun
  | [d] => { results := [.lit (.bool false)], args := [d] }
  | _ => none }
def FnExactDeltaOkWrongFalsely : Prop := fnExactDeltaOkRow.holds Try.pinned (OpenSpec.ofChange fnExactDeltaOkWrong)

/-- 'laws.FnExactDeltaFits': WHATEVER THE INPUT: true; the input reads as it did. -/
def fnExactDeltaFitsSpec : ChangeSpec := { name := "fnExactDeltaFits", fn := fun _ => fun
  | [d1, d2] => { results := [.lit (.bool true)], args := [d1, d2] }
  | _ => none }
def fnExactDeltaFitsRow : OpenClaim := { program := "ytgmlecghklaomaa", sum := "fa377676363503cb94e349e3376c1fb1258a3bb3bf51aed2403dae9c4bc2f7a0", func := "loop.example/g00391/laws.FnExactDeltaFits", spec := "fnExactDeltaFits", inPlace := ["internal/bytealg.abigen_runtime_cmpstring"], unfollowed := true, recurses := true, apart := false }
def FnExactDeltaFitsSaid : Prop := fnExactDeltaFitsRow.holds Try.pinned (OpenSpec.ofChange fnExactDeltaFitsSpec)

/-- ITS FALSE NEIGHBOUR: 'it returns false'. Refute it at one input. -/
def fnExactDeltaFitsWrong : ChangeSpec := { name := "fnExactDeltaFits", fn := fun _ => fun
  | [d1, d2] => { results := [.lit (.bool false)], args := [d1, d2] }
  | _ => none }
def FnExactDeltaFitsWrongFalsely : Prop := fnExactDeltaFitsRow.holds Try.pinned (OpenSpec.ofChange fnExactDeltaFitsWrong)

/-- 'laws.FnExactPrintAtom': WHATEVER THE INPUT: true; the input reads as it did. -/
def fnExactPrintAtomSpec : ChangeSpec := { name := "fnExactPrintAtom", fn := fun _ => fun
  | [d] => { results := [.lit (.bool true)], args := [d] }
  | _ => none }
def fnExactPrintAtomRow : OpenClaim := { program := "ytgmlecghklaomaa", sum := "fa377676363503cb94e349e3376c1fb1258a3bb3bf51aed2403dae9c4bc2f7a0", func := "loop.example/g00391/laws.FnExactPrintAtom", spec := "fnExactPrintAtom", inPlace := ["internal/abi.NoEscape", "internal/bytealg.MakeNoZero"], unfollowed := true, recurses := true, apart := false }
def FnExactPrintAtomSaid : Prop := fnExactPrintAtomRow.holds Try.pinned (OpenSpec.ofChange fnExactPrintAtomSpec)

/-- ITS FALSE NEIGHBOUR: 'it returns false'. Refute it at one input. -/
def fnExactPrintAtomWrong : ChangeSpec := { name := "fnExactPrintAtom", fn := fun _ => fun
  | [d] => { results := [.lit (.bool false)], args := [d] }
  | _ => none }
def FnExactPrintAtomWrongFalsely : Prop := fnExactPrintAtomRow.holds Try.pinned (OpenSpec.ofChange fnExactPrintAtomWrong)

/-- 'laws.FnExactPrintRule': WHATEVER THE INPUT: true; the input reads as it did. -/
def fnExactPrintRuleSpec : ChangeSpec := { name := "fnExactPrintRule", fn := fun _ => fun
  | [d] => { results := [.lit (.bool true)], args := [d] }
  | _ => none }
def fnExactPrintRuleRow : OpenClaim := { program := "ytgmlecghklaomaa", sum := "fa377676363503cb94e349e3376c1fb1258a3bb3bf51aed2403dae9c4bc2f7a0", func := "loop.example/g00391/laws.FnExactPrintRule", spec := "fnExactPrintRule", inPlace := ["internal/abi.NoEscape", "internal/bytealg.MakeNoZero"], unfollowed := true, recurses := true, apart := false }
def FnExactPrintRuleSaid : Prop := fnExactPrintRuleRow.holds Try.pinned (OpenSpec.ofChange fnExactPrintRuleSpec)

/-- ITS FALSE NEIGHBOUR: 'it returns false'. Refute it at one input. -/
def fnExactPrintRuleWrong : ChangeSpec := { name := "fnExactPrintRule", fn := fun _ => fun
  | [d] => { results := [.lit (.bool false)], args := [d] }
  | _ => none }
def FnExactPrintRuleWrongFalsely : Prop := fnExactPrintRuleRow.holds Try.pinned (OpenSpec.ofChange fnExactPrintRuleWrong)

/-- 'laws.FnExactProgramOk': WHATEVER THE INPUT: true; the input reads as it did. -/
def fnExactProgramOkSpec : ChangeSpec := { name := "fnExactProgramOk", fn := fun _ => fun
  | [d] => { results := [.lit (.bool true)], args := [d] }
  | _ => none }
def fnExactProgramOkRow : OpenClaim := { program := "ytgmlecghklaomaa", sum := "fa377676363503cb94e349e3376c1fb1258a3bb3bf51aed2403dae9c4bc2f7a0", func := "loop.example/g00391/laws.FnExactProgramOk", spec := "fnExactProgramOk", unfollowed := true, recurses := true, apart := false }
def FnExactProgramOkSaid : Prop := fnExactProgramOkRow.holds Try.pinned (OpenSpec.ofChange fnExactProgramOkSpec)

/-- ITS FALSE NEIGHBOUR: 'it returns false'. Refute it at one input. -/
def fnExactProgramOkWrong : ChangeSpec := { name := "fnExactProgramOk", fn := fun _ => fun
  | [d] => { results := [.lit (.bool false)], args := [d] }
  | _ => none }
def FnExactProgramOkWrongFalsely : Prop := fnExactProgramOkRow.holds Try.pinned (OpenSpec.ofChange fnExactProgramOkWrong)

/-- 'laws.FnExactPrintProgram': WHATEVER THE INPUT: true; the input reads as it did. -/
def fnExactPrintProgramSpec : ChangeSpec := { name := "fnExactPrintProgram", fn := fun _ => fun
  | [d] => { results := [.lit (.bool true)], args := [d] }
  | _ => none }
def fnExactPrintProgramRow : OpenClaim := { program := "ytgmlecghklaomaa", sum := "fa377676363503cb94e349e3376c1fb1258a3bb3bf51aed2403dae9c4bc2f7a0", func := "loop.example/g00391/laws.FnExactPrintProgram", spec := "fnExactPrintProgram", inPlace := ["internal/abi.NoEscape", "internal/bytealg.MakeNoZero"], unfollowed := true, recurses := true, apart := false }
def FnExactPrintProgramSaid : Prop := fnExactPrintProgramRow.holds Try.pinned (OpenSpec.ofChange fnExactPrintProgramSpec)

/-- ITS FALSE NEIGHBOUR: 'it returns false'. Refute it at one input. -/
def fnExactPrintProgramWrong : ChangeSpec := { name := "fnExactPrintProgram", fn := fun _ => fun
  | [d] => { results := [.lit (.bool false)], args := [d] }
  | _ => none }
def FnExactPrintProgramWrongFalsely : Prop := fnExactPrintProgramRow.holds Try.pinned (OpenSpec.ofChange fnExactPrintProgramWrong)

/- THE SECOND FORM. 'bulk': how many values and letters a reading holds, each counted each time it is reached (what is shared counts as often as it is met; a slice's spare places count too). A statement '..UptoSaid' is the law's where the arguments, and the package variables that the reading takes, are together of bulk at most 1048576: NARROWER than '..Said'. Prove '..Said' where nothing that the law and all that it calls make is longer than what came in: it says more and counts as full. Else prove '..UptoSaid'. A law counts once. -/
mutual
def uptoBulk {H : Type} : DataW H → Nat
  | .lit (.string bytes) => bytes.length + 1
  | .lit _ => 1
  | .nil => 1
  | .ptr d => uptoBulk d + 1
  | .slice elems spare => uptoBulkAll elems + uptoBulkAll spare + 1
  | .agg parts => uptoBulkAll parts + 1
  | .iface _ d => uptoBulk d + 1
  | .map entries => uptoBulkEntries entries + 1
  | .held _ => 1
def uptoBulkAll {H : Type} : List (DataW H) → Nat
  | [] => 0
  | d :: r => uptoBulk d + uptoBulkAll r
def uptoBulkEntries {H : Type} : List (Lit × DataW H) → Nat
  | [] => 0
  | x :: r => uptoBulkEntry x + uptoBulkEntries r
def uptoBulkEntry {H : Type} : Lit × DataW H → Nat
  | (.string bytes, d) => bytes.length + uptoBulk d + 1
  | (_, d) => uptoBulk d + 1
 end
def uptoSmall : (H : Type) → List (DataW H) → Bool := fun _ ds => decide (uptoBulkAll ds ≤ 1048576)
def OpenSpec.upto (s : _root_.Go.ChangeSpec) : _root_.Go.OpenSpec := { _root_.Go.OpenSpec.ofChange s with cond := some uptoSmall }

/-- 'laws.FnExactMsgOk', WHERE WHAT IT READS IS OF BULK AT MOST 1048576: true; the input reads as it did. -/
def fnExactMsgOkUptoRow : OpenClaim := { program := "ytgmlecghklaomaa", sum := "fa377676363503cb94e349e3376c1fb1258a3bb3bf51aed2403dae9c4bc2f7a0", func := "loop.example/g00391/laws.FnExactMsgOk", spec := "fnExactMsgOk", apart := false, narrowed := true }
def FnExactMsgOkUptoSaid : Prop := fnExactMsgOkUptoRow.holds Try.pinned (OpenSpec.upto fnExactMsgOkSpec)

/-- 'laws.FnExactStoreOk', WHERE WHAT IT READS IS OF BULK AT MOST 1048576: true; the input reads as it did. -/
def fnExactStoreOkUptoRow : OpenClaim := { program := "ytgmlecghklaomaa", sum := "fa377676363503cb94e349e3376c1fb1258a3bb3bf51aed2403dae9c4bc2f7a0", func := "loop.example/g00391/laws.FnExactStoreOk", spec := "fnExactStoreOk", inPlace := ["internal/bytealg.abigen_runtime_cmpstring"], unfollowed := true, recurses := true, apart := false, narrowed := true }
def FnExactStoreOkUptoSaid : Prop := fnExactStoreOkUptoRow.holds Try.pinned (OpenSpec.upto fnExactStoreOkSpec)

/-- 'laws.FnExactSameStore', WHERE WHAT IT READS IS OF BULK AT MOST 1048576: true; the input reads as it did. -/
def fnExactSameStoreUptoRow : OpenClaim := { program := "ytgmlecghklaomaa", sum := "fa377676363503cb94e349e3376c1fb1258a3bb3bf51aed2403dae9c4bc2f7a0", func := "loop.example/g00391/laws.FnExactSameStore", spec := "fnExactSameStore", inPlace := ["internal/bytealg.abigen_runtime_cmpstring"], unfollowed := true, recurses := true, apart := false, narrowed := true }
def FnExactSameStoreUptoSaid : Prop := fnExactSameStoreUptoRow.holds Try.pinned (OpenSpec.upto fnExactSameStoreSpec)

/-- 'laws.FnExactDeltaOk', WHERE WHAT IT READS IS OF BULK AT MOST 1048576: true; the input reads as it did. -/
def fnExactDeltaOkUptoRow : OpenClaim := { program := "ytgmlecghklaomaa", sum := "fa377676363503cb94e349e3376c1fb1258a3bb3bf51aed2403dae9c4bc2f7a0", func := "loop.example/g00391/laws.FnExactDeltaOk", spec := "fnExactDeltaOk", inPlace := ["internal/bytealg.abigen_runtime_cmpstring"], unfollowed := true, recurses := true, apart := false, narrowed := true }
def FnExactDeltaOkUptoSaid : Prop := fnExactDeltaOkUptoRow.holds Try.pinned (OpenSpec.upto fnExactDeltaOkSpec)

/-- 'laws.FnExactDeltaFits', WHERE WHAT IT READS IS OF BULK AT MOST 1048576: true; the input reads as it did. -/
def fnExactDeltaFitsUptoRow : OpenClaim := { program := "ytgmlecghklaomaa", sum := "fa377676363503cb94e349e3376c1fb1258a3bb3bf51aed2403dae9c4bc2f7a0", func := "loop.example/g00391/laws.FnExactDeltaFits", spec := "fnExactDeltaFits", inPlace := ["internal/bytealg.abigen_runtime_cmpstring"], unfollowed := true, recurses := true, apart := false, narrowed := true }
def FnExactDeltaFitsUptoSaid : Prop := fnExactDeltaFitsUptoRow.holds Try.pinned (OpenSpec.upto fnExactDeltaFitsSpec)

/-- 'laws.FnExactPrintAtom', WHERE WHAT IT READS IS OF BULK AT MOST 1048576: true; the input reads as it did. -/
def fnExactPrintAtomUptoRow : OpenClaim := { program := "ytgmlecghklaomaa", sum := "fa377676363503cb94e349e3376c1fb1258a3bb3bf51aed2403dae9c4bc2f7a0", func := "loop.example/g00391/laws.FnExactPrintAtom", spec := "fnExactPrintAtom", inPlace := ["internal/abi.NoEscape", "internal/bytealg.MakeNoZero"], unfollowed := true, recurses := true, apart := false, narrowed := true }
def FnExactPrintAtomUptoSaid : Prop := fnExactPrintAtomUptoRow.holds Try.pinned (OpenSpec.upto fnExactPrintAtomSpec)

/-- 'laws.FnExactPrintRule', WHERE WHAT IT READS IS OF BULK AT MOST 1048576: true; the input reads as it did. -/
def fnExactPrintRuleUptoRow : OpenClaim := { program := "ytgmlecghklaomaa", sum := "fa377676363503cb94e349e3376c1fb1258a3bb3bf51aed2403dae9c4bc2f7a0", func := "loop.example/g00391/laws.FnExactPrintRule", spec := "fnExactPrintRule", inPlace := ["internal/abi.NoEscape", "internal/bytealg.MakeNoZero"], unfollowed := true, recurses := true, apart := false, narrowed := true }
def FnExactPrintRuleUptoSaid : Prop := fnExactPrintRuleUptoRow.holds Try.pinned (OpenSpec.upto fnExactPrintRuleSpec)

/-- 'laws.FnExactProgramOk', WHERE WHAT IT READS IS OF BULK AT MOST 1048576: true; the input reads as it did. -/
def fnExactProgramOkUptoRow : OpenClaim := { program := "ytgmlecghklaomaa", sum := "fa377676363503cb94e349e3376c1fb1258a3bb3bf51aed2403dae9c4bc2f7a0", func := "loop.example/g00391/laws.FnExactProgramOk", spec := "fnExactProgramOk", unfollowed := true, recurses := true, apart := false, narrowed := true }
def FnExactProgramOkUptoSaid : Prop := fnExactProgramOkUptoRow.holds Try.pinned (OpenSpec.upto fnExactProgramOkSpec)

/-- 'laws.FnExactPrintProgram', WHERE WHAT IT READS IS OF BULK AT MOST 1048576: true; the input reads as it did. -/
def fnExactPrintProgramUptoRow : OpenClaim := { program := "ytgmlecghklaomaa", sum := "fa377676363503cb94e349e3376c1fb1258a3bb3bf51aed2403dae9c4bc2f7a0", func := "loop.example/g00391/laws.FnExactPrintProgram", spec := "fnExactPrintProgram", inPlace := ["internal/abi.NoEscape", "internal/bytealg.MakeNoZero"], unfollowed := true, recurses := true, apart := false, narrowed := true }
def FnExactPrintProgramUptoSaid : Prop := fnExactPrintProgramUptoRow.holds Try.pinned (OpenSpec.upto fnExactPrintProgramSpec)

end Rows
end Go.Proofs.Ytgmlecghklaomaa
