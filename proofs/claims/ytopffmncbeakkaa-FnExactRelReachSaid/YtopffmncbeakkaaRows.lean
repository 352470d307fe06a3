/-
  No cell of these rows narrows 'for every input' (looked for: loops, veiled, ifaces, maps, wideKeys, modest, calm, conditions, laid).
  DERIVED. THE GIVEN ROWS OF THIS SEAT. 6 by the template 'for every input the law returns true; each argument reads behind the call as it read before'; 0 by the template 'total and deterministic' (their statements: YtopffmncbeakkaaTotals.lean).
  GIVEN WITH THE SEED: the statements are not yours to turn. If you find one false, say at which input.
  Laid BY PROGRAM, IN A SANDBOX (cutbox-rows.mjs): the forced cells as the released guide's own fill.sh prints them over the translation 30d556487baf0f5e… (all of the seat's roots in one cut). By AI agents, Wed Nov 11 2026. No macro, syntax, notation, axiom, sorry.
-/
import Derived.Test.YtopffmncbeakkaaChecked
import GoSem.Claim
import GoSem.ClaimJoined
import GoSem.ClaimMapViews
import Derived.JoinedTies
import Derived.KernelRfl
namespace Go.Proofs.Ytopffmncbeakkaa
/- THE CELL 'sum', in the pinned program and in every row, IS THE sha256 OF THE DUMP (.gsa) THAT YtopffmncbeakkaaProg.lean LOADS. Nothing in Lean hashes anything: it is a label: what it is worth is what the hold of that sum in a sandbox is worth. -/
noncomputable def Try.pinned : Pinned := { name := "ytopffmncbeakkaa", sum := "30d556487baf0f5ea4627b732181141c778a379a50dfd4f8fb33a70a43ea374a", checked := Try.checked }
namespace Rows
def none {H : Type} : Left H := { results := [], args := [] }

/-- 'laws.FnExactRelDrop': WHATEVER THE INPUT: true; the input reads as it did. -/
def fnExactRelDropSpec : ChangeSpec := { name := "fnExactRelDrop", fn := fun _ => fun
  | [d1, d2] => { results := [.lit (.bool true)], args := [d1, d2] }
  | _ => none }
def fnExactRelDropRow : OpenClaim := { program := "ytopffmncbeakkaa", sum := "30d556487baf0f5ea4627b732181141c778a379a50dfd4f8fb33a70a43ea374a", func := "loop.example/g00391/laws.FnExactRelDrop", spec := "fnExactRelDrop", inPlace := ["internal/bytealg.abigen_runtime_cmpstring"], unfollowed := true, recurses := true, apart := false }
def FnExactRelDropSaid : Prop := fnExactRelDropRow.holds Try.pinned (OpenSpec.ofChange fnExactRelDropSpec)

/-- ITS FALSE NEIGHBOUR: 'it returns false'. Refute it at one input. -/
def fnExactRelDropWrong : ChangeSpec := { name := "fnExactRelDrop", fn := fun _ => fun
  | [d1, d2] => { results := [.lit (.bool false)], args := [d1, d2] }
  | _ => none }
def FnExactRelDropWrongFalsely : Prop := fnExactRelDropRow.holds Try.pinned (OpenSpec.ofChange fnExactRelDropWrong)

/-- 'laws.FnExactRelAdd': WHATEVER THE INPUT: true; the input reads as it did. -/
def fnExactRelAddSpec : ChangeSpec := { name := "fnExactRelAdd", fn := fun _ => fun
  | [d1, d2] => { results := [.lit (.bool true)], args := [d1, d2] }
  | _ => none }
def fnExactRelAddRow : OpenClaim := { program := "ytopffmncbeakkaa", sum := "30d556487baf0f5ea4627b732181141c778a379a50dfd4f8fb33a70a43ea374a", func := "loop.example/g00391/laws.FnExactRelAdd", spec := "fnExactRelAdd", inPlace := ["internal/bytealg.abigen_runtime_cmpstring", "slices.overlaps[loop.example/g00391/impl.Row]"], unfollowed := true, recurses := true, apart := false }
def FnExactRelAddSaid : Prop := fnExactRelAddRow.holds Try.pinned (OpenSpec.ofChange fnExactRelAddSpec)

/-- ITS FALSE NEIGHBOUR: 'it returns false'. Refute it at one input. -/
def fnExactRelAddWrong : ChangeSpec := { name := "fnExactRelAdd", fn := fun _ => fun
  | [d1, d2] => { results := [.lit (.bool false)], args := [d1, d2] }
  | _ => none }
def FnExactRelAddWrongFalsely : Prop := fnExactRelAddRow.holds Try.pinned (OpenSpec.ofChange fnExactRelAddWrong)

/-- 'laws.FnExactRelUnion': WHATEVER THE INPUT: true; the input reads as it did. -/
def fnExactRelUnionSpec : ChangeSpec := { name := "fnExactRelUnion", fn := fun _ => fun
  | [d1, d2] => { results := [.lit (.bool true)], args := [d1, d2] }
  | _ => none }
def fnExactRelUnionRow : OpenClaim := { program := "ytopffmncbeakkaa", sum := "30d556487baf0f5ea4627b732181141c778a379a50dfd4f8fb33a70a43ea374a", func := "loop.example/g00391/laws.FnExactRelUnion", spec := "fnExactRelUnion", inPlace := ["internal/bytealg.abigen_runtime_cmpstring"], unfollowed := true, recurses := true, apart := false }
def FnExactRelUnionSaid : Prop := fnExactRelUnionRow.holds Try.pinned (OpenSpec.ofChange fnExactRelUnionSpec)

/-- ITS FALSE NEIGHBOUR: 'it returns false'. Refute it at one input. -/
def fnExactRelUnionWrong : ChangeSpec := { name := "fnExactRelUnion", fn := fun _ => fun
  | [d1, d2] => { results := [.lit (.bool false)], args := [d1, d2] }
  | _ => none }
def FnExactRelUnionWrongFalsely : Prop := fnExactRelUnionRow.holds Try.pinned (OpenSpec.ofChange fnExactRelUnionWrong)

/-- 'laws.FnExactRelCols': WHATEVER THE INPUT: true; the input reads as it did. -/
def fnExactRelColsSpec : ChangeSpec := { name := "fnExactRelCols", fn := fun _ => fun
  | [d1, d2] => { results := [.lit (.bool true)], args := [d1, d2] }
  | _ => none }
def fnExactRelColsRow : OpenClaim := { program := "ytopffmncbeakkaa", sum := "30d556487baf0f5ea4627b732181141c778a379a50dfd4f8fb33a70a43ea374a", func := "loop.example/g00391/laws.FnExactRelCols", spec := "fnExactRelCols", inPlace := ["internal/bytealg.abigen_runtime_cmpstring"], unfollowed := true, recurses := true, apart := false }
def FnExactRelColsSaid : Prop := fnExactRelColsRow.holds Try.pinned (OpenSpec.ofChange fnExactRelColsSpec)

/-- ITS FALSE NEIGHBOUR: 'it returns false'. Refute it at one input. -/
def fnExactRelColsWrong : ChangeSpec := { name := "fnExactRelCols", fn := fun _ => fun
  | [d1, d2] => { results := [.lit (.bool false)], args := [d1, d2] }
  | _ => none }
def FnExactRelColsWrongFalsely : Prop := fnExactRelColsRow.holds Try.pinned (OpenSpec.ofChange fnExactRelColsWrong)

/-- 'laws.FnExactRelJoin': WHATEVER THE INPUT: true; the input reads as it did. -/
def fnExactRelJoinSpec : ChangeSpec := { name := "fnExactRelJoin", fn := fun _ => fun
  | [d1, d2, d3] => { results := [.lit (.bool true)], args := [d1, d2, d3] }
  | _ => none }
def fnExactRelJoinRow : OpenClaim := { program := "ytopffmncbeakkaa", sum := "30d556487baf0f5ea4627b732181141c778a379a50dfd4f8fb33a70a43ea374a", func := "loop.example/g00391/laws.FnExactRelJoin", spec := "fnExactRelJoin", inPlace := ["internal/bytealg.abigen_runtime_cmpstring"], unfollowed := true, recurses := true, apart := false }
def FnExactRelJoinSaid : Prop := fnExactRelJoinRow.holds Try.pinned (OpenSpec.ofChange fnExactRelJoinSpec)

/-- ITS FALSE NEIGHBOUR: 'it returns false'. Refute it at one input. -/
def fnExactRelJoinWrong : ChangeSpec := { name := "fnExactRelJoin", fn := fun _ => fun
  | [d1, d2, d3] => { results := [.lit (.bool false)], args := [d1, d2, d3] }
  | _ => none }
def FnExactRelJoinWrongFalsely : Prop := fnExactRelJoinRow.holds Try.pinned (OpenSpec.ofChange fnExactRelJoinWrong)

/-- 'laws.FnExactRelReach': WHATEVER THE INPUT: true; the input reads as it did. -/
def fnExactRelReachSpec : ChangeSpec := { name := "fnExactRelReach", fn := fun _ => fun
  | [d] => { results := [.lit (.bool true)], args := [d] }
  | _ => none }
def fnExactRelReachRow : OpenClaim := { program := "ytopffmncbeakkaa", sum := "30d556487baf0f5ea4627b732181141c778a379a50dfd4f8fb33a70a43ea374a", func := "loop.example/g00391/laws.FnExactRelReach", spec := "fnExactRelReach", inPlace := ["internal/bytealg.abigen_runtime_cmpstring"], unfollowed := true, recurses := true, apart := false }
def FnExactRelReachSaid : Prop := fnExactRelReachRow.holds Try.pinned (OpenSpec.ofChange fnExactRelReachSpec)

/-- ITS FALSE NEIGHBOUR: 'it returns false'. Refute it at one input. -/
def fnExactRelReachWrong : ChangeSpec := { name := "fnExactRelReach", fn := fun _ => fun
  | [d] => { results := [.lit (.bool false)], args := [d] }
  | _ => none }
def FnExactRelReachWrongFalsely : Prop := fnExactRelReachRow.holds Try.pinned (OpenSpec.ofChange fnExactRelReachWrong)

/- THE SECOND FORM. 'bulk': how many values and letters a reading holds, each counted each time it is reached (what is shared counts as often as it is met; a slice's spare places count too). A statement '..UptoSaid' is the law's where the arguments, and the package variables that the reading takes, are together of bulk at most 1048576: NARROWER than '..Said'. Prove '..Said' where nothing that the law and all that it calls make is longer than what came in: it says more and counts as full. Else prove '..UptoSaid'. A law counts once. -/
mutual
def uptoBulk {H : Type} : DataW H → Nat
  | .lit (.string bytes) => bytes.length + 1
  | .lit _ => 1
  | .nil => 1
  | .ptr d => uptoBulk d + 1
  | .slice elems spare => uptoBulkAll elems + uptoBulkAll spare + 1
  | .agg parts => uptoBulkAll parts + 1
  | .iface _ d => uptoBulk d + 1
  | .map entries => uptoBulkEntries entries + 1
  | .held _ => 1
def uptoBulkAll {H : Type} : List (DataW H) → Nat
  | [] => 0
  | d :: r => uptoBulk d + uptoBulkAll r
def uptoBulkEntries {H : Type} : List (Lit × DataW H) → Nat
  | [] => 0
  | x :: r => uptoBulkEntry x + uptoBulkEntries r
def uptoBulkEntry {H : Type} : Lit × DataW H → Nat
  | (.string bytes, d) => bytes.length + uptoBulk d + 1
  | (_, d) => uptoBulk d + 1
 end
def uptoSmall : (H : Type) → List (DataW H) → Bool := fun _ ds => decide (uptoBulkAll ds ≤ 1048576)
def OpenSpec.upto (s : _root_.Go.ChangeSpec) : _root_.Go.OpenSpec := { _root_.Go.OpenSpec.ofChange s with cond := some uptoSmall }

/-- 'laws.FnExactRelDrop', WHERE WHAT IT READS IS OF BULK AT MOST 1048576: true; the input reads as it did. -/
def fnExactRelDropUptoRow : OpenClaim := { program := "ytopffmncbeakkaa", sum := "30d556487baf0f5ea4627b732181141c778a379a50dfd4f8fb33a70a43ea374a", func := "loop.example/g00391/laws.FnExactRelDrop", spec := "fnExactRelDrop", inPlace := ["internal/bytealg.abigen_runtime_cmpstring"], unfollowed := true, recurses := true, apart := false, narrowed := true }
def FnExactRelDropUptoSaid : Prop := fnExactRelDropUptoRow.holds Try.pinned (OpenSpec.upto fnExactRelDropSpec)

/-- 'laws.FnExactRelAdd', WHERE WHAT IT READS IS OF BULK AT MOST 1048576: true; the input reads as it did. -/
def fnExactRelAddUptoRow : OpenClaim := { program := "ytopffmncbeakkaa", sum := "30d556487baf0f5ea4627b732181141c778a379a50dfd4f8fb33a70a43ea374a", func := "loop.example/g00391/laws.FnExactRelAdd", spec := "fnExactRelAdd", inPlace := ["internal/bytealg.abigen_runtime_cmpstring", "slices.overlaps[loop.example/g00391/impl.Row]"], unfollowed := true, recurses := true, apart := false, narrowed := true }
def FnExactRelAddUptoSaid : Prop := fnExactRelAddUptoRow.holds Try.pinned (OpenSpec.upto fnExactRelAddSpec)

/-- 'laws.FnExactRelUnion', WHERE WHAT IT READS IS OF BULK AT MOST 1048576: true; the input reads as it did. -/
def fnExactRelUnionUptoRow : OpenClaim := { program := "ytopffmncbeakkaa", sum := "30d556487baf0f5ea4627b732181141c778a379a50dfd4f8fb33a70a43ea374a", func := "loop.example/g00391/laws.FnExactRelUnion", spec := "fnExactRelUnion", inPlace := ["internal/bytealg.abigen_runtime_cmpstring"], unfollowed := true, recurses := true, apart := false, narrowed := true }
def FnExactRelUnionUptoSaid : Prop := fnExactRelUnionUptoRow.holds Try.pinned (OpenSpec.upto fnExactRelUnionSpec)

/-- 'laws.FnExactRelCols', WHERE WHAT IT READS IS OF BULK AT MOST 1048576: true; the input reads as it did. -/
def fnExactRelColsUptoRow : OpenClaim := { program := "ytopffmncbeakkaa", sum := "30d556487baf0f5ea4627b732181141c778a379a50dfd4f8fb33a70a43ea374a", func := "loop.example/g00391/laws.FnExactRelCols", spec := "fnExactRelCols", inPlace := ["internal/bytealg.abigen_runtime_cmpstring"], unfollowed := true, recurses := true, apart := false, narrowed := true }
def FnExactRelColsUptoSaid : Prop := fnExactRelColsUptoRow.holds Try.pinned (OpenSpec.upto fnExactRelColsSpec)

/-- 'laws.FnExactRelJoin', WHERE WHAT IT READS IS OF BULK AT MOST 1048576: true; the input reads as it did. -/
def fnExactRelJoinUptoRow : OpenClaim := { program := "ytopffmncbeakkaa", sum := "30d556487baf0f5ea4627b732181141c778a379a50dfd4f8fb33a70a43ea374a", func := "loop.example/g00391/laws.FnExactRelJoin", spec := "fnExactRelJoin", inPlace := ["internal/bytealg.abigen_runtime_cmpstring"], unfollowed := true, recurses := true, apart := false, narrowed := true }
def FnExactRelJoinUptoSaid : Prop := fnExactRelJoinUptoRow.holds Try.pinned (OpenSpec.upto fnExactRelJoinSpec)

/-- 'laws.FnExactRelReach', WHERE WHAT IT READS IS OF BULK AT MOST 1048576: true; the input reads as it did. -/
def fnExactRelReachUptoRow : OpenClaim := { program := "ytopffmncbeakkaa", sum := "30d556487baf0f5ea4627b732181141c778a379a50dfd4f8fb33a70a43ea374a", func := "loop.example/g00391/laws.FnExactRelReach", spec := "fnExactRelReach", inPlace := ["internal/bytealg.abigen_runtime_cmpstring"], unfollowed := true, recurses := true, apart := false, narrowed := true }
def FnExactRelReachUptoSaid : Prop := fnExactRelReachUptoRow.holds Try.pinned (OpenSpec.upto fnExactRelReachSpec)

end Rows
end Go.Proofs.Ytopffmncbeakkaa
