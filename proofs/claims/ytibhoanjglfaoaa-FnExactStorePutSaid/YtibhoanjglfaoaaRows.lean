/-
  No cell of these rows narrows 'for every input' (looked for: loops, veiled, ifaces, maps, wideKeys, modest, calm, conditions, laid).
  DERIVED. THE GIVEN ROWS OF THIS SEAT. 7 by the template 'for every input the law returns true; each argument reads behind the call as it read before'; 0 by the template 'total and deterministic' (their statements: YtibhoanjglfaoaaTotals.lean).
  GIVEN WITH THE SEED: the statements are not yours to turn. If you find one false, say at which input.
  Laid BY PROGRAM, IN A SANDBOX (cutbox-rows.mjs): the forced cells as the released guide's own fill.sh prints them over the translation 68e62652535f3d5a… (all of the seat's roots in one cut). By AI agents, Wed Nov 11 2026. No macro, syntax, notation, axiom, sorry.
-/
import Derived.Test.YtibhoanjglfaoaaChecked
import GoSem.Claim
import GoSem.ClaimJoined
import GoSem.ClaimMapViews
import Derived.JoinedTies
import Derived.KernelRfl
namespace Go.Proofs.Ytibhoanjglfaoaa
/- THE CELL 'sum', in the pinned program and in every row, IS THE sha256 OF THE DUMP (.gsa) THAT YtibhoanjglfaoaaProg.lean LOADS. Nothing in Lean hashes anything: it is a label: what it is worth is what the hold of that sum in a sandbox is worth. -/
noncomputable def Try.pinned : Pinned := { name := "ytibhoanjglfaoaa", sum := "68e62652535f3d5adfdfa141ab30630f9e65cb1ecd4d5cc31e7329857cb44811", checked := Try.checked }
namespace Rows
def none {H : Type} : Left H := { results := [], args := [] }

/-- 'laws.FnExactStoreRel': WHATEVER THE INPUT: true; the input reads as it did. -/
def fnExactStoreRelSpec : ChangeSpec := { name := "fnExactStoreRel", fn := fun _ => fun
  | [d1, d2] => { results := [.lit (.bool true)], args := [d1, d2] }
  | _ => none }
def fnExactStoreRelRow : OpenClaim := { program := "ytibhoanjglfaoaa", sum := "68e62652535f3d5adfdfa141ab30630f9e65cb1ecd4d5cc31e7329857cb44811", func := "loop.example/g00391/laws.FnExactStoreRel", spec := "fnExactStoreRel", inPlace := ["internal/bytealg.abigen_runtime_cmpstring"], unfollowed := true, recurses := true, apart := false }
def FnExactStoreRelSaid : Prop := fnExactStoreRelRow.holds Try.pinned (OpenSpec.ofChange fnExactStoreRelSpec)

/-- ITS FALSE NEIGHBOUR: 'it returns false'. Refute it at one input. -/
def fnExactStoreRelWrong : ChangeSpec := { name := "fnExactStoreRel", fn := fun _ => fun
  | [d1, d2] => { results := [.lit (.bool false)], args := [d1, d2] }
  | _ => none }
def FnExactStoreRelWrongFalsely : Prop := fnExactStoreRelRow.holds Try.pinned (OpenSpec.ofChange fnExactStoreRelWrong)

/-- 'laws.FnExactStorePut': WHATEVER THE INPUT: true; the input reads as it did. -/
def fnExactStorePutSpec : ChangeSpec := { name := "fnExactStorePut", fn := fun _ => fun
  | [d1, d2, d3] => { results := [.lit (.bool true)], args := [d1, d2, d3] }
  | _ => none }
def fnExactStorePutRow : OpenClaim := { program := "ytibhoanjglfaoaa", sum := "68e62652535f3d5adfdfa141ab30630f9e65cb1ecd4d5cc31e7329857cb44811", func := "loop.example/g00391/laws.FnExactStorePut", spec := "fnExactStorePut", inPlace := ["internal/bytealg.abigen_runtime_cmpstring", "slices.overlaps[loop.example/g00391/impl.Named]"], unfollowed := true, recurses := true, apart := false }
def FnExactStorePutSaid : Prop := fnExactStorePutRow.holds Try.pinned (OpenSpec.ofChange fnExactStorePutSpec)

/-- ITS FALSE NEIGHBOUR: 'it returns false'. Refute it at one input. -/
def fnExactStorePutWrong : ChangeSpec := { name := "fnExactStorePut", fn := fun _ => fun
  | [d1, d2, d3] => { results := [.lit (.bool false)], args := [d1, d2, d3] }
  | _ => none }
def FnExactStorePutWrongFalsely : Prop := fnExactStorePutRow.holds Try.pinned (OpenSpec.ofChange fnExactStorePutWrong)

/-- 'laws.FnExactStoreBytes': WHATEVER THE INPUT: true; the input reads as it did. -/
def fnExactStoreBytesSpec : ChangeSpec := { name := "fnExactStoreBytes", fn := fun _ => fun
  | [d] => { results := [.lit (.bool true)], args := [d] }
  | _ => none }
def fnExactStoreBytesRow : OpenClaim := { program := "ytibhoanjglfaoaa", sum := "68e62652535f3d5adfdfa141ab30630f9e65cb1ecd4d5cc31e7329857cb44811", func := "loop.example/g00391/laws.FnExactStoreBytes", spec := "fnExactStoreBytes", inPlace := ["internal/bytealg.abigen_runtime_cmpstring"], unfollowed := true, recurses := true, apart := false }
def FnExactStoreBytesSaid : Prop := fnExactStoreBytesRow.holds Try.pinned (OpenSpec.ofChange fnExactStoreBytesSpec)

/-- ITS FALSE NEIGHBOUR: 'it returns false'. Refute it at one input. -/
def fnExactStoreBytesWrong : ChangeSpec := { name := "fnExactStoreBytes", fn := fun _ => fun
  | [d] => { results := [.lit (.bool false)], args := [d] }
  | _ => none }
def FnExactStoreBytesWrongFalsely : Prop := fnExactStoreBytesRow.holds Try.pinned (OpenSpec.ofChange fnExactStoreBytesWrong)

/-- 'laws.FnExactStoreRead': WHATEVER THE INPUT: true; the input reads as it did. -/
def fnExactStoreReadSpec : ChangeSpec := { name := "fnExactStoreRead", fn := fun _ => fun
  | [d] => { results := [.lit (.bool true)], args := [d] }
  | _ => none }
def fnExactStoreReadRow : OpenClaim := { program := "ytibhoanjglfaoaa", sum := "68e62652535f3d5adfdfa141ab30630f9e65cb1ecd4d5cc31e7329857cb44811", func := "loop.example/g00391/laws.FnExactStoreRead", spec := "fnExactStoreRead", inPlace := ["internal/bytealg.abigen_runtime_cmpstring"], unfollowed := true, recurses := true, apart := false }
def FnExactStoreReadSaid : Prop := fnExactStoreReadRow.holds Try.pinned (OpenSpec.ofChange fnExactStoreReadSpec)

/-- ITS FALSE NEIGHBOUR: 'it returns false'. Refute it at one input. -/
def fnExactStoreReadWrong : ChangeSpec := { name := "fnExactStoreRead", fn := fun _ => fun
  | [d] => { results := [.lit (.bool false)], args := [d] }
  | _ => none }
def FnExactStoreReadWrongFalsely : Prop := fnExactStoreReadRow.holds Try.pinned (OpenSpec.ofChange fnExactStoreReadWrong)

/-- 'laws.FnStore': WHATEVER THE INPUT: true; the input reads as it did. -/
def fnStoreSpec : ChangeSpec := { name := "fnStore", fn := fun _ => fun
  | [d] => { results := [.lit (.bool true)], args := [d] }
  | _ => none }
def fnStoreRow : OpenClaim := { program := "ytibhoanjglfaoaa", sum := "68e62652535f3d5adfdfa141ab30630f9e65cb1ecd4d5cc31e7329857cb44811", func := "loop.example/g00391/laws.FnStore", spec := "fnStore", inPlace := ["internal/bytealg.abigen_runtime_cmpstring"], unfollowed := true, recurses := true, apart := false }
def FnStoreSaid : Prop := fnStoreRow.holds Try.pinned (OpenSpec.ofChange fnStoreSpec)

/-- ITS FALSE NEIGHBOUR: 'it returns false'. Refute it at one input. -/
def fnStoreWrong : ChangeSpec := { name := "fnStore", fn := fun _ => fun
  | [d] => { results := [.lit (.bool false)], args := [d] }
  | _ => none }
def FnStoreWrongFalsely : Prop := fnStoreRow.holds Try.pinned (OpenSpec.ofChange fnStoreWrong)

/-- 'laws.FnExactDeltaBack': WHATEVER THE INPUT: true; the input reads as it did. -/
def fnExactDeltaBackSpec : ChangeSpec := { name := "fnExactDeltaBack", fn := fun _ => fun
  | [d] => { results := [.lit (.bool true)], args := [d] }
  | _ => none }
def fnExactDeltaBackRow : OpenClaim := { program := "ytibhoanjglfaoaa", sum := "68e62652535f3d5adfdfa141ab30630f9e65cb1ecd4d5cc31e7329857cb44811", func := "loop.example/g00391/laws.FnExactDeltaBack", spec := "fnExactDeltaBack", inPlace := ["internal/bytealg.abigen_runtime_cmpstring"], unfollowed := true, recurses := true, apart := false }
def FnExactDeltaBackSaid : Prop := fnExactDeltaBackRow.holds Try.pinned (OpenSpec.ofChange fnExactDeltaBackSpec)

/-- ITS FALSE NEIGHBOUR: 'it returns false'. Refute it at one input. -/
def fnExactDeltaBackWrong : ChangeSpec := { name := "fnExactDeltaBack", fn := fun _ => fun
  | [d] => { results := [.lit (.bool false)], args := [d] }
  | _ => none }
def FnExactDeltaBackWrongFalsely : Prop := fnExactDeltaBackRow.holds Try.pinned (OpenSpec.ofChange fnExactDeltaBackWrong)

/-- 'laws.FnExactDeltaOf': WHATEVER THE INPUT: true; the input reads as it did. -/
def fnExactDeltaOfSpec : ChangeSpec := { name := "fnExactDeltaOf", fn := fun _ => fun
  | [d1, d2] => { results := [.lit (.bool true)], args := [d1, d2] }
  | _ => none }
def fnExactDeltaOfRow : OpenClaim := { program := "ytibhoanjglfaoaa", sum := "68e62652535f3d5adfdfa141ab30630f9e65cb1ecd4d5cc31e7329857cb44811", func := "loop.example/g00391/laws.FnExactDeltaOf", spec := "fnExactDeltaOf", inPlace := ["internal/bytealg.abigen_runtime_cmpstring"], unfollowed := true, recurses := true, apart := false }
def FnExactDeltaOfSaid : Prop := fnExactDeltaOfRow.holds Try.pinned (OpenSpec.ofChange fnExactDeltaOfSpec)

/-- ITS FALSE NEIGHBOUR: 'it returns false'. Refute it at one input. -/
def fnExactDeltaOfWrong : ChangeSpec := { name := "fnExactDeltaOf", fn := fun _ => fun
  | [d1, d2] => { results := [.lit (.bool false)], args := [d1, d2] }
  | _ => none }
def FnExactDeltaOfWrongFalsely : Prop := fnExactDeltaOfRow.holds Try.pinned (OpenSpec.ofChange fnExactDeltaOfWrong)

/- THE SECOND FORM. 'bulk': how many values and letters a reading holds, each counted each time it is reached (what is shared counts as often as it is met; a slice's spare places count too). A statement '..UptoSaid' is the law's where the arguments, and the package variables that the reading takes, are together of bulk at most 1048576: NARROWER than '..Said'. Prove '..Said' where nothing that the law and all that it calls make is longer than what came in: it says more and counts as full. Else prove '..UptoSaid'. A law counts once. -/
mutual
def uptoBulk {H : Type} : DataW H → Nat
  | .lit (.string bytes) => bytes.length + 1
  | .lit _ => 1
  | .nil => 1
  | .ptr d => uptoBulk d + 1
  | .slice elems spare => uptoBulkAll elems + uptoBulkAll spare + 1
  | .agg parts => uptoBulkAll parts + 1
  | .iface _ d => uptoBulk d + 1
  | .map entries => uptoBulkEntries entries + 1
  | .held _ => 1
def uptoBulkAll {H : Type} : List (DataW H) → Nat
  | [] => 0
  | d :: r => uptoBulk d + uptoBulkAll r
def uptoBulkEntries {H : Type} : List (Lit × DataW H) → Nat
  | [] => 0
  | x :: r => uptoBulkEntry x + uptoBulkEntries r
def uptoBulkEntry {H : Type} : Lit × DataW H → Nat
  | (.string bytes, d) => bytes.length + uptoBulk d + 1
  | (_, d) => uptoBulk d + 1
 end
def uptoSmall : (H : Type) → List (DataW H) → Bool := fun _ ds => decide (uptoBulkAll ds ≤ 1048576)
def OpenSpec.upto (s : _root_.Go.ChangeSpec) : _root_.Go.OpenSpec := { _root_.Go.OpenSpec.ofChange s with cond := some uptoSmall }

/-- 'laws.FnExactStoreRel', WHERE WHAT IT READS IS OF BULK AT MOST 1048576: true; the input reads as it did. -/
def fnExactStoreRelUptoRow : OpenClaim := { program := "ytibhoanjglfaoaa", sum := "68e62652535f3d5adfdfa141ab30630f9e65cb1ecd4d5cc31e7329857cb44811", func := "loop.example/g00391/laws.FnExactStoreRel", spec := "fnExactStoreRel", inPlace := ["internal/bytealg.abigen_runtime_cmpstring"], unfollowed := true, recurses := true, apart := false, narrowed := true }
def FnExactStoreRelUptoSaid : Prop := fnExactStoreRelUptoRow.holds Try.pinned (OpenSpec.upto fnExactStoreRelSpec)

/-- 'laws.FnExactStorePut', WHERE WHAT IT READS IS OF BULK AT MOST 1048576: true; the input reads as it did. -/
def fnExactStorePutUptoRow : OpenClaim := { program := "ytibhoanjglfaoaa", sum := "68e62652535f3d5adfdfa141ab30630f9e65cb1ecd4d5cc31e7329857cb44811", func := "loop.example/g00391/laws.FnExactStorePut", spec := "fnExactStorePut", inPlace := ["internal/bytealg.abigen_runtime_cmpstring", "slices.overlaps[loop.example/g00391/impl.Named]"], unfollowed := true, recurses := true, apart := false, narrowed := true }
def FnExactStorePutUptoSaid : Prop := fnExactStorePutUptoRow.holds Try.pinned (OpenSpec.upto fnExactStorePutSpec)

/-- 'laws.FnExactStoreBytes', WHERE WHAT IT READS IS OF BULK AT MOST 1048576: true; the input reads as it did. -/
def fnExactStoreBytesUptoRow : OpenClaim := { program := "ytibhoanjglfaoaa", sum := "68e62652535f3d5adfdfa141ab30630f9e65cb1ecd4d5cc31e7329857cb44811", func := "loop.example/g00391/laws.FnExactStoreBytes", spec := "fnExactStoreBytes", inPlace := ["internal/bytealg.abigen_runtime_cmpstring"], unfollowed := true, recurses := true, apart := false, narrowed := true }
def FnExactStoreBytesUptoSaid : Prop := fnExactStoreBytesUptoRow.holds Try.pinned (OpenSpec.upto fnExactStoreBytesSpec)

/-- 'laws.FnExactStoreRead', WHERE WHAT IT READS IS OF BULK AT MOST 1048576: true; the input reads as it did. -/
def fnExactStoreReadUptoRow : OpenClaim := { program := "ytibhoanjglfaoaa", sum := "68e62652535f3d5adfdfa141ab30630f9e65cb1ecd4d5cc31e7329857cb44811", func := "loop.example/g00391/laws.FnExactStoreRead", spec := "fnExactStoreRead", inPlace := ["internal/bytealg.abigen_runtime_cmpstring"], unfollowed := true, recurses := true, apart := false, narrowed := true }
def FnExactStoreReadUptoSaid : Prop := fnExactStoreReadUptoRow.holds Try.pinned (OpenSpec.upto fnExactStoreReadSpec)

/-- 'laws.FnStore', WHERE WHAT IT READS IS OF BULK AT MOST 1048576: true; the input reads as it did. -/
def fnStoreUptoRow : OpenClaim := { program := "ytibhoanjglfaoaa", sum := "68e62652535f3d5adfdfa141ab30630f9e65cb1ecd4d5cc31e7329857cb44811", func := "loop.example/g00391/laws.FnStore", spec := "fnStore", inPlace := ["internal/bytealg.abigen_runtime_cmpstring"], unfollowed := true, recurses := true, apart := false, narrowed := true }
def FnStoreUptoSaid : Prop := fnStoreUptoRow.holds Try.pinned (OpenSpec.upto fnStoreSpec)

/-- 'laws.FnExactDeltaBack', WHERE WHAT IT READS IS OF BULK AT MOST 1048576: true; the input reads as it did. -/
def fnExactDeltaBackUptoRow : OpenClaim := { program := "ytibhoanjglfaoaa", sum := "68e62652535f3d5adfdfa141ab30630f9e65cb1ecd4d5cc31e7329857cb44811", func := "loop.example/g00391/laws.FnExactDeltaBack", spec := "fnExactDeltaBack", inPlace := ["internal/bytealg.abigen_runtime_cmpstring"], unfollowed := true, recurses := true, apart := false, narrowed := true }
def FnExactDeltaBackUptoSaid : Prop := fnExactDeltaBackUptoRow.holds Try.pinned (OpenSpec.upto fnExactDeltaBackSpec)

/-- 'laws.FnExactDeltaOf', WHERE WHAT IT READS IS OF BULK AT MOST 1048576: true; the input reads as it did. -/
def fnExactDeltaOfUptoRow : OpenClaim := { program := "ytibhoanjglfaoaa", sum := "68e62652535f3d5adfdfa141ab30630f9e65cb1ecd4d5cc31e7329857cb44811", func := "loop.example/g00391/laws.FnExactDeltaOf", spec := "fnExactDeltaOf", inPlace := ["internal/bytealg.abigen_runtime_cmpstring"], unfollowed := true, recurses := true, apart := false, narrowed := true }
def FnExactDeltaOfUptoSaid : Prop := fnExactDeltaOfUptoRow.holds Try.pinned (OpenSpec.upto fnExactDeltaOfSpec)

end Rows
end Go.Proofs.Ytibhoanjglfaoaa
