/-
  No cell of these rows narrows 'for every input' (looked for: loops, veiled, ifaces, maps, wideKeys, modest, calm, conditions, laid).
  DERIVED. THE GIVEN ROWS OF THIS SEAT. 4 by the template 'for every input the law returns true; each argument reads behind the call as it read before'; 0 by the template 'total and deterministic' (their statements: YtibhoanjglfaoaaGreatTotals.lean).
  GIVEN WITH THE SEED: the statements are not yours to turn. If you find one false, say at which input.
  Laid BY PROGRAM, IN A SANDBOX (cutbox-rows.mjs): the forced cells as the released guide's own fill.sh prints them over the translation f2fa223ae33e6c42… (all of the seat's roots in one cut). By AI agents, Wed Nov 11 2026. No macro, syntax, notation, axiom, sorry.
-/
import Derived.Test.YtibhoanjglfaoaaGreatChecked
import GoSem.Claim
import GoSem.ClaimJoined
import GoSem.ClaimMapViews
import Derived.JoinedTies
import Derived.KernelRfl
namespace Go.Proofs.YtibhoanjglfaoaaGreat
/- THE CELL 'sum', in the pinned program and in every row, IS THE sha256 OF THE DUMP (.gsa) THAT YtibhoanjglfaoaaGreatProg.lean LOADS. Nothing in Lean hashes anything: it is a label: what it is worth is what the hold of that sum in a sandbox is worth. -/
noncomputable def Tryz.pinned : Pinned := { name := "ytibhoanjglfaoaagreat", sum := "f2fa223ae33e6c42dad36317f5a7f0e108e8974d017d45002f3073298fd4aaba", checked := Tryz.checked }
namespace Rows
def none {H : Type} : Left H := { results := [], args := [] }

/-- 'laws.FnExactDeltaApply': WHATEVER THE INPUT: true; the input reads as it did. -/
def fnExactDeltaApplySpec : ChangeSpec := { name := "fnExactDeltaApply", fn := fun _ => fun
  | [d1, d2] => { results := [.lit (.bool true)], args := [d1, d2] }
  | _ => none }
def fnExactDeltaApplyRow : OpenClaim := { program := "ytibhoanjglfaoaagreat", sum := "f2fa223ae33e6c42dad36317f5a7f0e108e8974d017d45002f3073298fd4aaba", func := "loop.example/g00391/laws.FnExactDeltaApply", spec := "fnExactDeltaApply", inPlace := ["internal/bytealg.abigen_runtime_cmpstring", "slices.overlaps[loop.example/g00391/impl.Named]"], unfollowed := true, recurses := true, apart := false }
def FnExactDeltaApplySaid : Prop := fnExactDeltaApplyRow.holds Tryz.pinned (OpenSpec.ofChange fnExactDeltaApplySpec)

/-- ITS FALSE NEIGHBOUR: 'it returns false'. Refute it at one input. -/
def fnExactDeltaApplyWrong : ChangeSpec := { name := "fnExactDeltaApply", fn := fun _ => fun
  | [d1, d2] => { results := [.lit (.bool false)], args := [d1, d2] }
  | _ => none }
def FnExactDeltaApplyWrongFalsely : Prop := fnExactDeltaApplyRow.holds Tryz.pinned (OpenSpec.ofChange fnExactDeltaApplyWrong)

/-- 'laws.FnExactDeltaThen': WHATEVER THE INPUT: true; the input reads as it did. -/
def fnExactDeltaThenSpec : ChangeSpec := { name := "fnExactDeltaThen", fn := fun _ => fun
  | [d1, d2] => { results := [.lit (.bool true)], args := [d1, d2] }
  | _ => none }
def fnExactDeltaThenRow : OpenClaim := { program := "ytibhoanjglfaoaagreat", sum := "f2fa223ae33e6c42dad36317f5a7f0e108e8974d017d45002f3073298fd4aaba", func := "loop.example/g00391/laws.FnExactDeltaThen", spec := "fnExactDeltaThen", inPlace := ["internal/bytealg.abigen_runtime_cmpstring"], unfollowed := true, recurses := true, apart := false }
def FnExactDeltaThenSaid : Prop := fnExactDeltaThenRow.holds Tryz.pinned (OpenSpec.ofChange fnExactDeltaThenSpec)

/-- ITS FALSE NEIGHBOUR: 'it returns false'. Refute it at one input. -/
def fnExactDeltaThenWrong : ChangeSpec := { name := "fnExactDeltaThen", fn := fun _ => fun
  | [d1, d2] => { results := [.lit (.bool false)], args := [d1, d2] }
  | _ => none }
def FnExactDeltaThenWrongFalsely : Prop := fnExactDeltaThenRow.holds Tryz.pinned (OpenSpec.ofChange fnExactDeltaThenWrong)

/-- 'laws.FnDelta': WHATEVER THE INPUT: true; the input reads as it did. -/
def fnDeltaSpec : ChangeSpec := { name := "fnDelta", fn := fun _ => fun
  | [d] => { results := [.lit (.bool true)], args := [d] }
  | _ => none }
def fnDeltaRow : OpenClaim := { program := "ytibhoanjglfaoaagreat", sum := "f2fa223ae33e6c42dad36317f5a7f0e108e8974d017d45002f3073298fd4aaba", func := "loop.example/g00391/laws.FnDelta", spec := "fnDelta", inPlace := ["internal/bytealg.abigen_runtime_cmpstring", "slices.overlaps[loop.example/g00391/impl.Named]"], unfollowed := true, recurses := true, apart := false }
def FnDeltaSaid : Prop := fnDeltaRow.holds Tryz.pinned (OpenSpec.ofChange fnDeltaSpec)

/-- ITS FALSE NEIGHBOUR: 'it returns false'. Refute it at one input. -/
def fnDeltaWrong : ChangeSpec := { name := "fnDelta", fn := fun _ => fun
  | [d] => { results := [.lit (.bool false)], args := [d] }
  | _ => none }
def FnDeltaWrongFalsely : Prop := fnDeltaRow.holds Tryz.pinned (OpenSpec.ofChange fnDeltaWrong)

/-- 'laws.FnThen': WHATEVER THE INPUT: true; the input reads as it did. -/
def fnThenSpec : ChangeSpec := { name := "fnThen", fn := fun _ => fun
  | [d] => { results := [.lit (.bool true)], args := [d] }
  | _ => none }
def fnThenRow : OpenClaim := { program := "ytibhoanjglfaoaagreat", sum := "f2fa223ae33e6c42dad36317f5a7f0e108e8974d017d45002f3073298fd4aaba", func := "loop.example/g00391/laws.FnThen", spec := "fnThen", inPlace := ["internal/bytealg.abigen_runtime_cmpstring", "slices.overlaps[loop.example/g00391/impl.Named]"], unfollowed := true, recurses := true, apart := false }
def FnThenSaid : Prop := fnThenRow.holds Tryz.pinned (OpenSpec.ofChange fnThenSpec)

/-- ITS FALSE NEIGHBOUR: 'it returns false'. Refute it at one input. -/
def fnThenWrong : ChangeSpec := { name := "fnThen", fn := fun _ => fun
  | [d] => { results := [.lit (.bool false)], args := [d] }
  | _ => none }
def FnThenWrongFalsely : Prop := fnThenRow.holds Tryz.pinned (OpenSpec.ofChange fnThenWrong)

/- THE SECOND FORM. 'bulk': how many values and letters a reading holds, each counted each time it is reached (what is shared counts as often as it is met; a slice's spare places count too). A statement '..UptoSaid' is the law's where the arguments, and the package variables that the reading takes, are together of bulk at most 1048576: NARROWER than '..Said'. Prove '..Said' where nothing that the law and all that it calls make is longer than what came in: it says more and counts as full. Else prove '..UptoSaid'. A law counts once. -/
mutual
def uptoBulk {H : Type} : DataW H → Nat
  | .lit (.string bytes) => bytes.length + 1
  | .lit _ => 1
  | .nil => 1
  | .ptr d => uptoBulk d + 1
  | .slice elems spare => uptoBulkAll elems + uptoBulkAll spare + 1
  | .agg parts => uptoBulkAll parts + 1
  | .iface _ d => uptoBulk d + 1
  | .map entries => uptoBulkEntries entries + 1
  | .held _ => 1
def uptoBulkAll {H : Type} : List (DataW H) → Nat
  | [] => 0
  | d :: r => uptoBulk d + uptoBulkAll r
def uptoBulkEntries {H : Type} : List (Lit × DataW H) → Nat
  | [] => 0
  | x :: r => uptoBulkEntry x + uptoBulkEntries r
def uptoBulkEntry {H : Type} : Lit × DataW H → Nat
  | (.string bytes, d) => bytes.length + uptoBulk d + 1
  | (_, d) => uptoBulk d + 1
 end
def uptoSmall : (H : Type) → List (DataW H) → Bool := fun _ ds => decide (uptoBulkAll ds ≤ 1048576)
def OpenSpec.upto (s : _root_.Go.ChangeSpec) : _root_.Go.OpenSpec := { _root_.Go.OpenSpec.ofChange s with cond := some uptoSmall }

/-- 'laws.FnExactDeltaApply', WHERE WHAT IT READS IS OF BULK AT MOST 1048576: true; the input reads as it did. -/
def fnExactDeltaApplyUptoRow : OpenClaim := { program := "ytibhoanjglfaoaagreat", sum := "f2fa223ae33e6c42dad36317f5a7f0e108e8974d017d45002f3073298fd4aaba", func := "loop.example/g00391/laws.FnExactDeltaApply", spec := "fnExactDeltaApply", inPlace := ["internal/bytealg.abigen_runtime_cmpstring", "slices.overlaps[loop.example/g00391/impl.Named]"], unfollowed := true, recurses := true, apart := false, narrowed := true }
def FnExactDeltaApplyUptoSaid : Prop := fnExactDeltaApplyUptoRow.holds Tryz.pinned (OpenSpec.upto fnExactDeltaApplySpec)

/-- 'laws.FnExactDeltaThen', WHERE WHAT IT READS IS OF BULK AT MOST 1048576: true; the input reads as it did. -/
def fnExactDeltaThenUptoRow : OpenClaim := { program := "ytibhoanjglfaoaagreat", sum := "f2fa223ae33e6c42dad36317f5a7f0e108e8974d017d45002f3073298fd4aaba", func := "loop.example/g00391/laws.FnExactDeltaThen", spec := "fnExactDeltaThen", inPlace := ["internal/bytealg.abigen_runtime_cmpstring"], unfollowed := true, recurses := true, apart := false, narrowed := true }
def FnExactDeltaThenUptoSaid : Prop := fnExactDeltaThenUptoRow.holds Tryz.pinned (OpenSpec.upto fnExactDeltaThenSpec)

/-- 'laws.FnDelta', WHERE WHAT IT READS IS OF BULK AT MOST 1048576: true; the input reads as it did. -/
def fnDeltaUptoRow : OpenClaim := { program := "ytibhoanjglfaoaagreat", sum := "f2fa223ae33e6c42dad36317f5a7f0e108e8974d017d45002f3073298fd4aaba", func := "loop.example/g00391/laws.FnDelta", spec := "fnDelta", inPlace := ["internal/bytealg.abigen_runtime_cmpstring", "slices.overlaps[loop.example/g00391/impl.Named]"], unfollowed := true, recurses := true, apart := false, narrowed := true }
def FnDeltaUptoSaid : Prop := fnDeltaUptoRow.holds Tryz.pinned (OpenSpec.upto fnDeltaSpec)

/-- 'laws.FnThen', WHERE WHAT IT READS IS OF BULK AT MOST 1048576: true; the input reads as it did. -/
def fnThenUptoRow : OpenClaim := { program := "ytibhoanjglfaoaagreat", sum := "f2fa223ae33e6c42dad36317f5a7f0e108e8974d017d45002f3073298fd4aaba", func := "loop.example/g00391/laws.FnThen", spec := "fnThen", inPlace := ["internal/bytealg.abigen_runtime_cmpstring", "slices.overlaps[loop.example/g00391/impl.Named]"], unfollowed := true, recurses := true, apart := false, narrowed := true }
def FnThenUptoSaid : Prop := fnThenUptoRow.holds Tryz.pinned (OpenSpec.upto fnThenSpec)

end Rows
end Go.Proofs.YtibhoanjglfaoaaGreat
