/-
  No cell of these rows narrows 'for every input' (looked for: loops, veiled, ifaces, maps, wideKeys, modest, calm, conditions, laid).
  DERIVED. THE GIVEN ROWS OF THIS SEAT. 12 by the template 'for every input the law returns true; each argument reads behind the call as it read before'; 0 by the template 'total and deterministic' (their statements: YtgealkbfaffedaaTotals.lean).
  GIVEN WITH THE SEED: the statements are not yours to turn. If you find one false, say at which input.
  Laid BY PROGRAM, IN A SANDBOX (cutbox-rows.mjs): the forced cells as the released guide's own fill.sh prints them over the translation 4ae374e5bb2e1ff5… (all of the seat's roots in one cut). By AI agents, Wed Nov 11 2026. No macro, syntax, notation, axiom, sorry.
-/
import Derived.Test.YtgealkbfaffedaaChecked
import GoSem.Claim
import GoSem.ClaimJoined
import GoSem.ClaimMapViews
import Derived.JoinedTies
import Derived.KernelRfl
namespace Go.Proofs.Ytgealkbfaffedaa
/- THE CELL 'sum', in the pinned program and in every row, IS THE sha256 OF THE DUMP (.gsa) THAT YtgealkbfaffedaaProg.lean LOADS. Nothing in Lean hashes anything: it is a label: what it is worth is what the hold of that sum in a sandbox is worth. -/
noncomputable def Try.pinned : Pinned := { name := "ytgealkbfaffedaa", sum := "4ae374e5bb2e1ff5d318275cb6b1fb121e00d8e228d219583a718b333b2e2a70", checked := Try.checked }
namespace Rows
def none {H : Type} : Left H := { results := [], args := [] }

/-- 'laws.FnExactKept': WHATEVER THE INPUT: true; the input reads as it did. -/
def fnExactKeptSpec : ChangeSpec := { name := "fnExactKept", fn := fun _ => fun
  | [d] => { results := [.lit (.bool true)], args := [d] }
  | _ => none }
def fnExactKeptRow : OpenClaim := { program := "ytgealkbfaffedaa", sum := "4ae374e5bb2e1ff5d318275cb6b1fb121e00d8e228d219583a718b333b2e2a70", func := "loop.example/g00391/laws.FnExactKept", spec := "fnExactKept", apart := false }
def FnExactKeptSaid : Prop := fnExactKeptRow.holds Try.pinned (OpenSpec.ofChange fnExactKeptSpec)

/-- ITS FALSE NEIGHBOUR: 'it returns false'. Refute it at one input. -/
def fnExactKeptWrong : ChangeSpec := { name := "fnExactKept", fn := fun _ => fun
  | [d] => { results := [.lit (.bool false)], args := [d] }
  | _ => none }
def FnExactKeptWrongFalsely : Prop := fnExactKeptRow.holds Try.pinned (OpenSpec.ofChange fnExactKeptWrong)

/-- 'laws.FnExactVarOk': WHATEVER THE INPUT: true; the input reads as it did. -/
def fnExactVarOkSpec : ChangeSpec := { name := "fnExactVarOk", fn := fun _ => fun
  | [d] => { results := [.lit (.bool true)], args := [d] }
  | _ => none }
def fnExactVarOkRow : OpenClaim := { program := "ytgealkbfaffedaa", sum := "4ae374e5bb2e1ff5d318275cb6b1fb121e00d8e228d219583a718b333b2e2a70", func := "loop.example/g00391/laws.FnExactVarOk", spec := "fnExactVarOk", apart := false }
def FnExactVarOkSaid : Prop := fnExactVarOkRow.holds Try.pinned (OpenSpec.ofChange fnExactVarOkSpec)

/-- ITS FALSE NEIGHBOUR: 'it returns false'. Refute it at one input. -/
def fnExactVarOkWrong : ChangeSpec := { name := "fnExactVarOk", fn := fun _ => fun
  | [d] => { results := [.lit (.bool false)], args := [d] }
  | _ => none }
def FnExactVarOkWrongFalsely : Prop := fnExactVarOkRow.holds Try.pinned (OpenSpec.ofChange fnExactVarOkWrong)

/-- 'laws.FnExactValueOk': WHATEVER THE INPUT: true; the input reads as it did. -/
def fnExactValueOkSpec : ChangeSpec := { name := "fnExactValueOk", fn := fun _ => fun
  | [d] => { results := [.lit (.bool true)], args := [d] }
  | _ => none }
def fnExactValueOkRow : OpenClaim := { program := "ytgealkbfaffedaa", sum := "4ae374e5bb2e1ff5d318275cb6b1fb121e00d8e228d219583a718b333b2e2a70", func := "loop.example/g00391/laws.FnExactValueOk", spec := "fnExactValueOk", apart := false }
def FnExactValueOkSaid : Prop := fnExactValueOkRow.holds Try.pinned (OpenSpec.ofChange fnExactValueOkSpec)

/-- ITS FALSE NEIGHBOUR: 'it returns false'. Refute it at one input. -/
def fnExactValueOkWrong : ChangeSpec := { name := "fnExactValueOk", fn := fun _ => fun
  | [d] => { results := [.lit (.bool false)], args := [d] }
  | _ => none }
def FnExactValueOkWrongFalsely : Prop := fnExactValueOkRow.holds Try.pinned (OpenSpec.ofChange fnExactValueOkWrong)

/-- 'laws.FnExactValueLess': WHATEVER THE INPUT: true; the input reads as it did. -/
def fnExactValueLessSpec : ChangeSpec := { name := "fnExactValueLess", fn := fun _ => fun
  | [d1, d2] => { results := [.lit (.bool true)], args := [d1, d2] }
  | _ => none }
def fnExactValueLessRow : OpenClaim := { program := "ytgealkbfaffedaa", sum := "4ae374e5bb2e1ff5d318275cb6b1fb121e00d8e228d219583a718b333b2e2a70", func := "loop.example/g00391/laws.FnExactValueLess", spec := "fnExactValueLess", inPlace := ["internal/bytealg.abigen_runtime_cmpstring"], apart := false }
def FnExactValueLessSaid : Prop := fnExactValueLessRow.holds Try.pinned (OpenSpec.ofChange fnExactValueLessSpec)

/-- ITS FALSE NEIGHBOUR: 'it returns false'. Refute it at one input. -/
def fnExactValueLessWrong : ChangeSpec := { name := "fnExactValueLess", fn := fun _ => fun
  | [d1, d2] => { results := [.lit (.bool false)], args := [d1, d2] }
  | _ => none }
def FnExactValueLessWrongFalsely : Prop := fnExactValueLessRow.holds Try.pinned (OpenSpec.ofChange fnExactValueLessWrong)

/-- 'laws.FnExactValueText': WHATEVER THE INPUT: true; the input reads as it did. -/
def fnExactValueTextSpec : ChangeSpec := { name := "fnExactValueText", fn := fun _ => fun
  | [d] => { results := [.lit (.bool true)], args := [d] }
  | _ => none }
def fnExactValueTextRow : OpenClaim := { program := "ytgealkbfaffedaa", sum := "4ae374e5bb2e1ff5d318275cb6b1fb121e00d8e228d219583a718b333b2e2a70", func := "loop.example/g00391/laws.FnExactValueText", spec := "fnExactValueText", recurses := true, apart := false }
def FnExactValueTextSaid : Prop := fnExactValueTextRow.holds Try.pinned (OpenSpec.ofChange fnExactValueTextSpec)

/-- ITS FALSE NEIGHBOUR: 'it returns false'. Refute it at one input. -/
def fnExactValueTextWrong : ChangeSpec := { name := "fnExactValueText", fn := fun _ => fun
  | [d] => { results := [.lit (.bool false)], args := [d] }
  | _ => none }
def FnExactValueTextWrongFalsely : Prop := fnExactValueTextRow.holds Try.pinned (OpenSpec.ofChange fnExactValueTextWrong)

/-- 'laws.FnExactTextValue': WHATEVER THE INPUT: true; the input reads as it did. -/
def fnExactTextValueSpec : ChangeSpec := { name := "fnExactTextValue", fn := fun _ => fun
  | [d] => { results := [.lit (.bool true)], args := [d] }
  | _ => none }
def fnExactTextValueRow : OpenClaim := { program := "ytgealkbfaffedaa", sum := "4ae374e5bb2e1ff5d318275cb6b1fb121e00d8e228d219583a718b333b2e2a70", func := "loop.example/g00391/laws.FnExactTextValue", spec := "fnExactTextValue", recurses := true, apart := false }
def FnExactTextValueSaid : Prop := fnExactTextValueRow.holds Try.pinned (OpenSpec.ofChange fnExactTextValueSpec)

/-- ITS FALSE NEIGHBOUR: 'it returns false'. Refute it at one input. -/
def fnExactTextValueWrong : ChangeSpec := { name := "fnExactTextValue", fn := fun _ => fun
  | [d] => { results := [.lit (.bool false)], args := [d] }
  | _ => none }
def FnExactTextValueWrongFalsely : Prop := fnExactTextValueRow.holds Try.pinned (OpenSpec.ofChange fnExactTextValueWrong)

/-- 'laws.FnExactRowOk': WHATEVER THE INPUT: true; the input reads as it did. -/
def fnExactRowOkSpec : ChangeSpec := { name := "fnExactRowOk", fn := fun _ => fun
  | [d] => { results := [.lit (.bool true)], args := [d] }
  | _ => none }
def fnExactRowOkRow : OpenClaim := { program := "ytgealkbfaffedaa", sum := "4ae374e5bb2e1ff5d318275cb6b1fb121e00d8e228d219583a718b333b2e2a70", func := "loop.example/g00391/laws.FnExactRowOk", spec := "fnExactRowOk", unfollowed := true, recurses := true, apart := false }
def FnExactRowOkSaid : Prop := fnExactRowOkRow.holds Try.pinned (OpenSpec.ofChange fnExactRowOkSpec)

/-- ITS FALSE NEIGHBOUR: 'it returns false'. Refute it at one input. -/
def fnExactRowOkWrong : ChangeSpec := { name := "fnExactRowOk", fn := fun _ => fun
  | [d] => { results := [.lit (.bool false)], args := [d] }
  | _ => none }
def FnExactRowOkWrongFalsely : Prop := fnExactRowOkRow.holds Try.pinned (OpenSpec.ofChange fnExactRowOkWrong)

/-- 'laws.FnValues': WHATEVER THE INPUT: true; the input reads as it did. -/
def fnValuesSpec : ChangeSpec := { name := "fnValues", fn := fun _ => fun
  | [d] => { results := [.lit (.bool true)], args := [d] }
  | _ => none }
def fnValuesRow : OpenClaim := { program := "ytgealkbfaffedaa", sum := "4ae374e5bb2e1ff5d318275cb6b1fb121e00d8e228d219583a718b333b2e2a70", func := "loop.example/g00391/laws.FnValues", spec := "fnValues", inPlace := ["internal/bytealg.abigen_runtime_cmpstring"], recurses := true, apart := false }
def FnValuesSaid : Prop := fnValuesRow.holds Try.pinned (OpenSpec.ofChange fnValuesSpec)

/-- ITS FALSE NEIGHBOUR: 'it returns false'. Refute it at one input. -/
def fnValuesWrong : ChangeSpec := { name := "fnValues", fn := fun _ => fun
  | [d] => { results := [.lit (.bool false)], args := [d] }
  | _ => none }
def FnValuesWrongFalsely : Prop := fnValuesRow.holds Try.pinned (OpenSpec.ofChange fnValuesWrong)

/-- 'laws.FnExactRowOrder': WHATEVER THE INPUT: true; the input reads as it did. -/
def fnExactRowOrderSpec : ChangeSpec := { name := "fnExactRowOrder", fn := fun _ => fun
  | [d1, d2] => { results := [.lit (.bool true)], args := [d1, d2] }
  | _ => none }
def fnExactRowOrderRow : OpenClaim := { program := "ytgealkbfaffedaa", sum := "4ae374e5bb2e1ff5d318275cb6b1fb121e00d8e228d219583a718b333b2e2a70", func := "loop.example/g00391/laws.FnExactRowOrder", spec := "fnExactRowOrder", inPlace := ["internal/bytealg.abigen_runtime_cmpstring"], unfollowed := true, recurses := true, apart := false }
def FnExactRowOrderSaid : Prop := fnExactRowOrderRow.holds Try.pinned (OpenSpec.ofChange fnExactRowOrderSpec)

/-- ITS FALSE NEIGHBOUR: 'it returns false'. Refute it at one input. -/
def fnExactRowOrderWrong : ChangeSpec := { name := "fnExactRowOrder", fn := fun _ => fun
  | [d1, d2] => { results := [.lit (.bool false)], args := [d1, d2] }
  | _ => none }
def FnExactRowOrderWrongFalsely : Prop := fnExactRowOrderRow.holds Try.pinned (OpenSpec.ofChange fnExactRowOrderWrong)

/-- 'laws.FnExactRowText': WHATEVER THE INPUT: true; the input reads as it did. -/
def fnExactRowTextSpec : ChangeSpec := { name := "fnExactRowText", fn := fun _ => fun
  | [d] => { results := [.lit (.bool true)], args := [d] }
  | _ => none }
def fnExactRowTextRow : OpenClaim := { program := "ytgealkbfaffedaa", sum := "4ae374e5bb2e1ff5d318275cb6b1fb121e00d8e228d219583a718b333b2e2a70", func := "loop.example/g00391/laws.FnExactRowText", spec := "fnExactRowText", inPlace := ["internal/abi.NoEscape", "internal/bytealg.MakeNoZero"], unfollowed := true, recurses := true, apart := false }
def FnExactRowTextSaid : Prop := fnExactRowTextRow.holds Try.pinned (OpenSpec.ofChange fnExactRowTextSpec)

/-- ITS FALSE NEIGHBOUR: 'it returns false'. Refute it at one input. -/
def fnExactRowTextWrong : ChangeSpec := { name := "fnExactRowText", fn := fun _ => fun
  | [d] => { results := [.lit (.bool false)], args := [d] }
  | _ => none }
def FnExactRowTextWrongFalsely : Prop := fnExactRowTextRow.holds Try.pinned (OpenSpec.ofChange fnExactRowTextWrong)

/-- 'laws.FnExactRelOk': WHATEVER THE INPUT: true; the input reads as it did. -/
def fnExactRelOkSpec : ChangeSpec := { name := "fnExactRelOk", fn := fun _ => fun
  | [d] => { results := [.lit (.bool true)], args := [d] }
  | _ => none }
def fnExactRelOkRow : OpenClaim := { program := "ytgealkbfaffedaa", sum := "4ae374e5bb2e1ff5d318275cb6b1fb121e00d8e228d219583a718b333b2e2a70", func := "loop.example/g00391/laws.FnExactRelOk", spec := "fnExactRelOk", inPlace := ["internal/bytealg.abigen_runtime_cmpstring"], unfollowed := true, recurses := true, apart := false }
def FnExactRelOkSaid : Prop := fnExactRelOkRow.holds Try.pinned (OpenSpec.ofChange fnExactRelOkSpec)

/-- ITS FALSE NEIGHBOUR: 'it returns false'. Refute it at one input. -/
def fnExactRelOkWrong : ChangeSpec := { name := "fnExactRelOk", fn := fun _ => fun
  | [d] => { results := [.lit (.bool false)], args := [d] }
  | _ => none }
def FnExactRelOkWrongFalsely : Prop := fnExactRelOkRow.holds Try.pinned (OpenSpec.ofChange fnExactRelOkWrong)

/-- 'laws.FnExactRelHas': WHATEVER THE INPUT: true; the input reads as it did. -/
def fnExactRelHasSpec : ChangeSpec := { name := "fnExactRelHas", fn := fun _ => fun
  | [d1, d2] => { results := [.lit (.bool true)], args := [d1, d2] }
  | _ => none }
def fnExactRelHasRow : OpenClaim := { program := "ytgealkbfaffedaa", sum := "4ae374e5bb2e1ff5d318275cb6b1fb121e00d8e228d219583a718b333b2e2a70", func := "loop.example/g00391/laws.FnExactRelHas", spec := "fnExactRelHas", inPlace := ["internal/bytealg.abigen_runtime_cmpstring"], unfollowed := true, recurses := true, apart := false }
def FnExactRelHasSaid : Prop := fnExactRelHasRow.holds Try.pinned (OpenSpec.ofChange fnExactRelHasSpec)

/-- ITS FALSE NEIGHBOUR: 'it returns false'. Refute it at one input. -/
def fnExactRelHasWrong : ChangeSpec := { name := "fnExactRelHas", fn := fun _ => fun
  | [d1, d2] => { results := [.lit (.bool false)], args := [d1, d2] }
  | _ => none }
def FnExactRelHasWrongFalsely : Prop := fnExactRelHasRow.holds Try.pinned (OpenSpec.ofChange fnExactRelHasWrong)

/- THE SECOND FORM. 'bulk': how many values and letters a reading holds, each counted each time it is reached (what is shared counts as often as it is met; a slice's spare places count too). A statement '..UptoSaid' is the law's where the arguments, and the package variables that the reading takes, are together of bulk at most 1048576: NARROWER than '..Said'. Prove '..Said' where nothing that the law and all that it calls make is longer than what came in: it says more and counts as full. Else prove '..UptoSaid'. A law counts once. -/
mutual
def uptoBulk {H : Type} : DataW H → Nat
  | .lit (.string bytes) => bytes.length + 1
  | .lit _ => 1
  | .nil => 1
  | .ptr d => uptoBulk d + 1
  | .slice elems spare => uptoBulkAll elems + uptoBulkAll spare + 1
  | .agg parts => uptoBulkAll parts + 1
  | .iface _ d => uptoBulk d + 1
  | .map entries => uptoBulkEntries entries + 1
  | .held _ => 1
def uptoBulkAll {H : Type} : List (DataW H) → Nat
  | [] => 0
  | d :: r => uptoBulk d + uptoBulkAll r
def uptoBulkEntries {H : Type} : List (Lit × DataW H) → Nat
  | [] => 0
  | x :: r => uptoBulkEntry x + uptoBulkEntries r
def uptoBulkEntry {H : Type} : Lit × DataW H → Nat
  | (.string bytes, d) => bytes.length + uptoBulk d + 1
  | (_, d) => uptoBulk d + 1
 end
def uptoSmall : (H : Type) → List (DataW H) → Bool := fun _ ds => decide (uptoBulkAll ds ≤ 1048576)
def OpenSpec.upto (s : _root_.Go.ChangeSpec) : _root_.Go.OpenSpec := { _root_.Go.OpenSpec.ofChange s with cond := some uptoSmall }

/-- 'laws.FnExactKept', WHERE WHAT IT READS IS OF BULK AT MOST 1048576: true; the input reads as it did. -/
def fnExactKeptUptoRow : OpenClaim := { program := "ytgealkbfaffedaa", sum := "4ae374e5bb2e1ff5d318275cb6b1fb121e00d8e228d219583a718b333b2e2a70", func := "loop.example/g00391/laws.FnExactKept", spec := "fnExactKept", apart := false, narrowed := true }
def FnExactKeptUptoSaid : Prop := fnExactKeptUptoRow.holds Try.pinned (OpenSpec.upto fnExactKeptSpec)

/-- 'laws.FnExactVarOk', WHERE WHAT IT READS IS OF BULK AT MOST 1048576: true; the input reads as it did. -/
def fnExactVarOkUptoRow : OpenClaim := { program := "ytgealkbfaffedaa", sum := "4ae374e5bb2e1ff5d318275cb6b1fb121e00d8e228d219583a718b333b2e2a70", func := "loop.example/g00391/laws.FnExactVarOk", spec := "fnExactVarOk", apart := false, narrowed := true }
def FnExactVarOkUptoSaid : Prop := fnExactVarOkUptoRow.holds Try.pinned (OpenSpec.upto fnExactVarOkSpec)

/-- 'laws.FnExactValueOk', WHERE WHAT IT READS IS OF BULK AT MOST 1048576: true; the input reads as it did. -/
def fnExactValueOkUptoRow : OpenClaim := { program := "ytgealkbfaffedaa", sum := "4ae374e5bb2e1ff5d318275cb6b1fb121e00d8e228d219583a718b333b2e2a70", func := "loop.example/g00391/laws.FnExactValueOk", spec := "fnExactValueOk", apart := false, narrowed := true }
def FnExactValueOkUptoSaid : Prop := fnExactValueOkUptoRow.holds Try.pinned (OpenSpec.upto fnExactValueOkSpec)

/-- 'laws.FnExactValueLess', WHERE WHAT IT READS IS OF BULK AT MOST 1048576: true; the input reads as it did. -/
def fnExactValueLessUptoRow : OpenClaim := { program := "ytgealkbfaffedaa", sum := "4ae374e5bb2e1ff5d318275cb6b1fb121e00d8e228d219583a718b333b2e2a70", func := "loop.example/g00391/laws.FnExactValueLess", spec := "fnExactValueLess", inPlace := ["internal/bytealg.abigen_runtime_cmpstring"], apart := false, narrowed := true }
def FnExactValueLessUptoSaid : Prop := fnExactValueLessUptoRow.holds Try.pinned (OpenSpec.upto fnExactValueLessSpec)

/-- 'laws.FnExactValueText', WHERE WHAT IT READS IS OF BULK AT MOST 1048576: true; the input reads as it did. -/
def fnExactValueTextUptoRow : OpenClaim := { program := "ytgealkbfaffedaa", sum := "4ae374e5bb2e1ff5d318275cb6b1fb121e00d8e228d219583a718b333b2e2a70", func := "loop.example/g00391/laws.FnExactValueText", spec := "fnExactValueText", recurses := true, apart := false, narrowed := true }
def FnExactValueTextUptoSaid : Prop := fnExactValueTextUptoRow.holds Try.pinned (OpenSpec.upto fnExactValueTextSpec)

/-- 'laws.FnExactTextValue', WHERE WHAT IT READS IS OF BULK AT MOST 1048576: true; the input reads as it did. -/
def fnExactTextValueUptoRow : OpenClaim := { program := "ytgealkbfaffedaa", sum := "4ae374e5bb2e1ff5d318275cb6b1fb121e00d8e228d219583a718b333b2e2a70", func := "loop.example/g00391/laws.FnExactTextValue", spec := "fnExactTextValue", recurses := true, apart := false, narrowed := true }
def FnExactTextValueUptoSaid : Prop := fnExactTextValueUptoRow.holds Try.pinned (OpenSpec.upto fnExactTextValueSpec)

/-- 'laws.FnExactRowOk', WHERE WHAT IT READS IS OF BULK AT MOST 1048576: true; the input reads as it did. -/
def fnExactRowOkUptoRow : OpenClaim := { program := "ytgealkbfaffedaa", sum := "4ae374e5bb2e1ff5d318275cb6b1fb121e00d8e228d219583a718b333b2e2a70", func := "loop.example/g00391/laws.FnExactRowOk", spec := "fnExactRowOk", unfollowed := true, recurses := true, apart := false, narrowed := true }
def FnExactRowOkUptoSaid : Prop := fnExactRowOkUptoRow.holds Try.pinned (OpenSpec.upto fnExactRowOkSpec)

/-- 'laws.FnValues', WHERE WHAT IT READS IS OF BULK AT MOST 1048576: true; the input reads as it did. -/
def fnValuesUptoRow : OpenClaim := { program := "ytgealkbfaffedaa", sum := "4ae374e5bb2e1ff5d318275cb6b1fb121e00d8e228d219583a718b333b2e2a70", func := "loop.example/g00391/laws.FnValues", spec := "fnValues", inPlace := ["internal/bytealg.abigen_runtime_cmpstring"], recurses := true, apart := false, narrowed := true }
def FnValuesUptoSaid : Prop := fnValuesUptoRow.holds Try.pinned (OpenSpec.upto fnValuesSpec)

/-- 'laws.FnExactRowOrder', WHERE WHAT IT READS IS OF BULK AT MOST 1048576: true; the input reads as it did. -/
def fnExactRowOrderUptoRow : OpenClaim := { program := "ytgealkbfaffedaa", sum := "4ae374e5bb2e1ff5d318275cb6b1fb121e00d8e228d219583a718b333b2e2a70", func := "loop.example/g00391/laws.FnExactRowOrder", spec := "fnExactRowOrder", inPlace := ["internal/bytealg.abigen_runtime_cmpstring"], unfollowed := true, recurses := true, apart := false, narrowed := true }
def FnExactRowOrderUptoSaid : Prop := fnExactRowOrderUptoRow.holds Try.pinned (OpenSpec.upto fnExactRowOrderSpec)

/-- 'laws.FnExactRowText', WHERE WHAT IT READS IS OF BULK AT MOST 1048576: true; the input reads as it did. -/
def fnExactRowTextUptoRow : OpenClaim := { program := "ytgealkbfaffedaa", sum := "4ae374e5bb2e1ff5d318275cb6b1fb121e00d8e228d219583a718b333b2e2a70", func := "loop.example/g00391/laws.FnExactRowText", spec := "fnExactRowText", inPlace := ["internal/abi.NoEscape", "internal/bytealg.MakeNoZero"], unfollowed := true, recurses := true, apart := false, narrowed := true }
def FnExactRowTextUptoSaid : Prop := fnExactRowTextUptoRow.holds Try.pinned (OpenSpec.upto fnExactRowTextSpec)

/-- 'laws.FnExactRelOk', WHERE WHAT IT READS IS OF BULK AT MOST 1048576: true; the input reads as it did. -/
def fnExactRelOkUptoRow : OpenClaim := { program := "ytgealkbfaffedaa", sum := "4ae374e5bb2e1ff5d318275cb6b1fb121e00d8e228d219583a718b333b2e2a70", func := "loop.example/g00391/laws.FnExactRelOk", spec := "fnExactRelOk", inPlace := ["internal/bytealg.abigen_runtime_cmpstring"], unfollowed := true, recurses := true, apart := false, narrowed := true }
def FnExactRelOkUptoSaid : Prop := fnExactRelOkUptoRow.holds Try.pinned (OpenSpec.upto fnExactRelOkSpec)

/-- 'laws.FnExactRelHas', WHERE WHAT IT READS IS OF BULK AT MOST 1048576: true; the input reads as it did. -/
def fnExactRelHasUptoRow : OpenClaim := { program := "ytgealkbfaffedaa", sum := "4ae374e5bb2e1ff5d318275cb6b1fb121e00d8e228d219583a718b333b2e2a70", func := "loop.example/g00391/laws.FnExactRelHas", spec := "fnExactRelHas", inPlace := ["internal/bytealg.abigen_runtime_cmpstring"], unfollowed := true, recurses := true, apart := false, narrowed := true }
def FnExactRelHasUptoSaid : Prop := fnExactRelHasUptoRow.holds Try.pinned (OpenSpec.upto fnExactRelHasSpec)

end Rows
end Go.Proofs.Ytgealkbfaffedaa
