/-
  No cell of these rows narrows 'for every input' (looked for: loops, veiled, ifaces, maps, wideKeys, modest, calm, conditions, laid).
  DERIVED. THE GIVEN ROWS OF THIS SEAT. 10 by the template 'for every input the law returns true; each argument reads behind the call as it read before'; 0 by the template 'total and deterministic' (their statements: YtbdmnjobhfhinaaTotals.lean).
  GIVEN WITH THE SEED: the statements are not yours to turn. If you find one false, say at which input.
  Laid BY PROGRAM, IN A SANDBOX (cutbox-rows.mjs): the forced cells as the released guide's own fill.sh prints them over the translation 67c63f1e1b4b970b… (all of the seat's roots in one cut). By AI agents, Wed Nov 11 2026. No macro, syntax, notation, axiom, sorry.
-/
import Derived.Test.YtbdmnjobhfhinaaChecked
import GoSem.Claim
import GoSem.ClaimJoined
import GoSem.ClaimMapViews
import Derived.JoinedTies
import Derived.KernelRfl
namespace Go.Proofs.Ytbdmnjobhfhinaa
/- THE CELL 'sum', in the pinned program and in every row, IS THE sha256 OF THE DUMP (.gsa) THAT YtbdmnjobhfhinaaProg.lean LOADS. Nothing in Lean hashes anything: it is a label: what it is worth is what the hold of that sum in a sandbox is worth. -/
noncomputable def Try.pinned : Pinned := { name := "ytbdmnjobhfhinaa", sum := "67c63f1e1b4b970b4c4d08b9246bb5c2e8cdc4f672e1b46618e3125df152cfdf", checked := Try.checked }
namespace Rows
def none {H : Type} : Left H := { results := [], args := [] }

/-- 'laws.FnExactHeardBy': WHATEVER THE INPUT: true; the input reads as it did. -/
def fnExactHeardBySpec : ChangeSpec := { name := "fnExactHeardBy", fn := fun _ => fun
  | [d1, d2] => { results := [.lit (.bool true)], args := [d1, d2] }
  | _ => none }
def fnExactHeardByRow : OpenClaim := { program := "ytbdmnjobhfhinaa", sum := "67c63f1e1b4b970b4c4d08b9246bb5c2e8cdc4f672e1b46618e3125df152cfdf", func := "loop.example/g00470/laws.FnExactHeardBy", spec := "fnExactHeardBy", apart := false }
def FnExactHeardBySaid : Prop := fnExactHeardByRow.holds Try.pinned (OpenSpec.ofChange fnExactHeardBySpec)

/-- ITS FALSE NEIGHBOUR: 'it returns false'. Refute it at one input. -/
def fnExactHeardByWrong : ChangeSpec := { name := "fnExactHeardBy", fn := fun _ => fun
  | [d1, d2] => { results := [.lit (.bool false)], args := [d1, d2] }
  | _ => none }
def FnExactHeardByWrongFalsely : Prop := fnExactHeardByRow.holds Try.pinned (OpenSpec.ofChange fnExactHeardByWrong)

/-- 'laws.FnExactFlood': WHATEVER THE INPUT: true; the input reads as it did. -/
def fnExactFloodSpec : ChangeSpec := { name := "fnExactFlood", fn := fun _ => fun
  | [d1, d2] => { results := [.lit (.bool true)], args := [d1, d2] }
  | _ => none }
def fnExactFloodRow : OpenClaim := { program := "ytbdmnjobhfhinaa", sum := "67c63f1e1b4b970b4c4d08b9246bb5c2e8cdc4f672e1b46618e3125df152cfdf", func := "loop.example/g00470/laws.FnExactFlood", spec := "fnExactFlood", apart := false }
def FnExactFloodSaid : Prop := fnExactFloodRow.holds Try.pinned (OpenSpec.ofChange fnExactFloodSpec)

/-- ITS FALSE NEIGHBOUR: 'it returns false'. Refute it at one input. -/
def fnExactFloodWrong : ChangeSpec := { name := "fnExactFlood", fn := fun _ => fun
  | [d1, d2] => { results := [.lit (.bool false)], args := [d1, d2] }
  | _ => none }
def FnExactFloodWrongFalsely : Prop := fnExactFloodRow.holds Try.pinned (OpenSpec.ofChange fnExactFloodWrong)

/-- 'laws.FnExactPathTo': WHATEVER THE INPUT: true; the input reads as it did. -/
def fnExactPathToSpec : ChangeSpec := { name := "fnExactPathTo", fn := fun _ => fun
  | [d1, d2, d3] => { results := [.lit (.bool true)], args := [d1, d2, d3] }
  | _ => none }
def fnExactPathToRow : OpenClaim := { program := "ytbdmnjobhfhinaa", sum := "67c63f1e1b4b970b4c4d08b9246bb5c2e8cdc4f672e1b46618e3125df152cfdf", func := "loop.example/g00470/laws.FnExactPathTo", spec := "fnExactPathTo", unfollowed := true, recurses := true, apart := false }
def FnExactPathToSaid : Prop := fnExactPathToRow.holds Try.pinned (OpenSpec.ofChange fnExactPathToSpec)

/-- ITS FALSE NEIGHBOUR: 'it returns false'. Refute it at one input. -/
def fnExactPathToWrong : ChangeSpec := { name := "fnExactPathTo", fn := fun _ => fun
  | [d1, d2, d3] => { results := [.lit (.bool false)], args := [d1, d2, d3] }
  | _ => none }
def FnExactPathToWrongFalsely : Prop := fnExactPathToRow.holds Try.pinned (OpenSpec.ofChange fnExactPathToWrong)

/-- 'laws.FnExactSnapOf': WHATEVER THE INPUT: true; the input reads as it did. -/
def fnExactSnapOfSpec : ChangeSpec := { name := "fnExactSnapOf", fn := fun _ => fun
  | [d1, d2, d3, d4] => { results := [.lit (.bool true)], args := [d1, d2, d3, d4] }
  | _ => none }
def fnExactSnapOfRow : OpenClaim := { program := "ytbdmnjobhfhinaa", sum := "67c63f1e1b4b970b4c4d08b9246bb5c2e8cdc4f672e1b46618e3125df152cfdf", func := "loop.example/g00470/laws.FnExactSnapOf", spec := "fnExactSnapOf", apart := false }
def FnExactSnapOfSaid : Prop := fnExactSnapOfRow.holds Try.pinned (OpenSpec.ofChange fnExactSnapOfSpec)

/-- ITS FALSE NEIGHBOUR: 'it returns false'. Refute it at one input. -/
def fnExactSnapOfWrong : ChangeSpec := { name := "fnExactSnapOf", fn := fun _ => fun
  | [d1, d2, d3, d4] => { results := [.lit (.bool false)], args := [d1, d2, d3, d4] }
  | _ => none }
def FnExactSnapOfWrongFalsely : Prop := fnExactSnapOfRow.holds Try.pinned (OpenSpec.ofChange fnExactSnapOfWrong)

/-- 'laws.FnFromSnap': WHATEVER THE INPUT: true; the input reads as it did. -/
def fnFromSnapSpec : ChangeSpec := { name := "fnFromSnap", fn := fun _ => fun
  | [d] => { results := [.lit (.bool true)], args := [d] }
  | _ => none }
def fnFromSnapRow : OpenClaim := { program := "ytbdmnjobhfhinaa", sum := "67c63f1e1b4b970b4c4d08b9246bb5c2e8cdc4f672e1b46618e3125df152cfdf", func := "loop.example/g00470/laws.FnFromSnap", spec := "fnFromSnap", apart := false }
def FnFromSnapSaid : Prop := fnFromSnapRow.holds Try.pinned (OpenSpec.ofChange fnFromSnapSpec)

/-- ITS FALSE NEIGHBOUR: 'it returns false'. Refute it at one input. -/
def fnFromSnapWrong : ChangeSpec := { name := "fnFromSnap", fn := fun _ => fun
  | [d] => { results := [.lit (.bool false)], args := [d] }
  | _ => none }
def FnFromSnapWrongFalsely : Prop := fnFromSnapRow.holds Try.pinned (OpenSpec.ofChange fnFromSnapWrong)

/-- 'laws.FnHeardOnce': WHATEVER THE INPUT: true; the input reads as it did. -/
def fnHeardOnceSpec : ChangeSpec := { name := "fnHeardOnce", fn := fun _ => fun
  | [d] => { results := [.lit (.bool true)], args := [d] }
  | _ => none }
def fnHeardOnceRow : OpenClaim := { program := "ytbdmnjobhfhinaa", sum := "67c63f1e1b4b970b4c4d08b9246bb5c2e8cdc4f672e1b46618e3125df152cfdf", func := "loop.example/g00470/laws.FnHeardOnce", spec := "fnHeardOnce", unfollowed := true, recurses := true, apart := false }
def FnHeardOnceSaid : Prop := fnHeardOnceRow.holds Try.pinned (OpenSpec.ofChange fnHeardOnceSpec)

/-- ITS FALSE NEIGHBOUR: 'it returns false'. Refute it at one input. -/
def fnHeardOnceWrong : ChangeSpec := { name := "fnHeardOnce", fn := fun _ => fun
  | [d] => { results := [.lit (.bool false)], args := [d] }
  | _ => none }
def FnHeardOnceWrongFalsely : Prop := fnHeardOnceRow.holds Try.pinned (OpenSpec.ofChange fnHeardOnceWrong)

/-- 'laws.FnExactFabricOk': WHATEVER THE INPUT: true; the input reads as it did. -/
def fnExactFabricOkSpec : ChangeSpec := { name := "fnExactFabricOk", fn := fun _ => fun
  | [d] => { results := [.lit (.bool true)], args := [d] }
  | _ => none }
def fnExactFabricOkRow : OpenClaim := { program := "ytbdmnjobhfhinaa", sum := "67c63f1e1b4b970b4c4d08b9246bb5c2e8cdc4f672e1b46618e3125df152cfdf", func := "loop.example/g00470/laws.FnExactFabricOk", spec := "fnExactFabricOk", apart := false }
def FnExactFabricOkSaid : Prop := fnExactFabricOkRow.holds Try.pinned (OpenSpec.ofChange fnExactFabricOkSpec)

/-- ITS FALSE NEIGHBOUR: 'it returns false'. Refute it at one input. -/
def fnExactFabricOkWrong : ChangeSpec := { name := "fnExactFabricOk", fn := fun _ => fun
  | [d] => { results := [.lit (.bool false)], args := [d] }
  | _ => none }
def FnExactFabricOkWrongFalsely : Prop := fnExactFabricOkRow.holds Try.pinned (OpenSpec.ofChange fnExactFabricOkWrong)

/-- 'laws.FnFloods': WHATEVER THE INPUT: true; the input reads as it did. -/
def fnFloodsSpec : ChangeSpec := { name := "fnFloods", fn := fun _ => fun
  | [d] => { results := [.lit (.bool true)], args := [d] }
  | _ => none }
def fnFloodsRow : OpenClaim := { program := "ytbdmnjobhfhinaa", sum := "67c63f1e1b4b970b4c4d08b9246bb5c2e8cdc4f672e1b46618e3125df152cfdf", func := "loop.example/g00470/laws.FnFloods", spec := "fnFloods", unfollowed := true, recurses := true, apart := false }
def FnFloodsSaid : Prop := fnFloodsRow.holds Try.pinned (OpenSpec.ofChange fnFloodsSpec)

/-- ITS FALSE NEIGHBOUR: 'it returns false'. Refute it at one input. -/
def fnFloodsWrong : ChangeSpec := { name := "fnFloods", fn := fun _ => fun
  | [d] => { results := [.lit (.bool false)], args := [d] }
  | _ => none }
def FnFloodsWrongFalsely : Prop := fnFloodsRow.holds Try.pinned (OpenSpec.ofChange fnFloodsWrong)

/-- 'laws.FnPaths': WHATEVER THE INPUT: true; the input reads as it did. -/
def fnPathsSpec : ChangeSpec := { name := "fnPaths", fn := fun _ => fun
  | [d] => { results := [.lit (.bool true)], args := [d] }
  | _ => none }
def fnPathsRow : OpenClaim := { program := "ytbdmnjobhfhinaa", sum := "67c63f1e1b4b970b4c4d08b9246bb5c2e8cdc4f672e1b46618e3125df152cfdf", func := "loop.example/g00470/laws.FnPaths", spec := "fnPaths", unfollowed := true, recurses := true, apart := false }
def FnPathsSaid : Prop := fnPathsRow.holds Try.pinned (OpenSpec.ofChange fnPathsSpec)

/-- ITS FALSE NEIGHBOUR: 'it returns false'. Refute it at one input. -/
def fnPathsWrong : ChangeSpec := { name := "fnPaths", fn := fun _ => fun
  | [d] => { results := [.lit (.bool false)], args := [d] }
  | _ => none }
def FnPathsWrongFalsely : Prop := fnPathsRow.holds Try.pinned (OpenSpec.ofChange fnPathsWrong)

/-- 'laws.FnExactFabricNew': WHATEVER THE INPUT: true; the input reads as it did. -/
def fnExactFabricNewSpec : ChangeSpec := { name := "fnExactFabricNew", fn := fun _ => fun
  | [d] => { results := [.lit (.bool true)], args := [d] }
  | _ => none }
def fnExactFabricNewRow : OpenClaim := { program := "ytbdmnjobhfhinaa", sum := "67c63f1e1b4b970b4c4d08b9246bb5c2e8cdc4f672e1b46618e3125df152cfdf", func := "loop.example/g00470/laws.FnExactFabricNew", spec := "fnExactFabricNew", apart := false }
def FnExactFabricNewSaid : Prop := fnExactFabricNewRow.holds Try.pinned (OpenSpec.ofChange fnExactFabricNewSpec)

/-- ITS FALSE NEIGHBOUR: 'it returns false'. Refute it at one input. -/
def fnExactFabricNewWrong : ChangeSpec := { name := "fnExactFabricNew", fn := fun _ => fun
  | [d] => { results := [.lit (.bool false)], args := [d] }
  | _ => none }
def FnExactFabricNewWrongFalsely : Prop := fnExactFabricNewRow.holds Try.pinned (OpenSpec.ofChange fnExactFabricNewWrong)

/- THE SECOND FORM. 'bulk': how many values and letters a reading holds, each counted each time it is reached (what is shared counts as often as it is met; a slice's spare places count too). A statement '..UptoSaid' is the law's where the arguments, and the package variables that the reading takes, are together of bulk at most 1048576: NARROWER than '..Said'. Prove '..Said' where nothing that the law and all that it calls make is longer than what came in: it says more and counts as full. Else prove '..UptoSaid'. A law counts once. -/
mutual
def uptoBulk {H : Type} : DataW H → Nat
  | .lit (.string bytes) => bytes.length + 1
  | .lit _ => 1
  | .nil => 1
  | .ptr d => uptoBulk d + 1
  | .slice elems spare => uptoBulkAll elems + uptoBulkAll spare + 1
  | .agg parts => uptoBulkAll parts + 1
  | .iface _ d => uptoBulk d + 1
  | .map entries => uptoBulkEntries entries + 1
  | .held _ => 1
def uptoBulkAll {H : Type} : List (DataW H) → Nat
  | [] => 0
  | d :: r => uptoBulk d + uptoBulkAll r
def uptoBulkEntries {H : Type} : List (Lit × DataW H) → Nat
  | [] => 0
  | x :: r => uptoBulkEntry x + uptoBulkEntries r
def uptoBulkEntry {H : Type} : Lit × DataW H → Nat
  | (.string bytes, d) => bytes.length + uptoBulk d + 1
  | (_, d) => uptoBulk d + 1
 end
def uptoSmall : (H : Type) → List (DataW H) → Bool := fun _ ds => decide (uptoBulkAll ds ≤ 1048576)
def OpenSpec.upto (s : _root_.Go.ChangeSpec) : _root_.Go.OpenSpec := { _root_.Go.OpenSpec.ofChange s with cond := some uptoSmall }

/-- 'laws.FnExactHeardBy', WHERE WHAT IT READS IS OF BULK AT MOST 1048576: true; the input reads as it did. -/
def fnExactHeardByUptoRow : OpenClaim := { program := "ytbdmnjobhfhinaa", sum := "67c63f1e1b4b970b4c4d08b9246bb5c2e8cdc4f672e1b46618e3125df152cfdf", func := "loop.example/g00470/laws.FnExactHeardBy", spec := "fnExactHeardBy", apart := false, narrowed := true }
def FnExactHeardByUptoSaid : Prop := fnExactHeardByUptoRow.holds Try.pinned (OpenSpec.upto fnExactHeardBySpec)

/-- 'laws.FnExactFlood', WHERE WHAT IT READS IS OF BULK AT MOST 1048576: true; the input reads as it did. -/
def fnExactFloodUptoRow : OpenClaim := { program := "ytbdmnjobhfhinaa", sum := "67c63f1e1b4b970b4c4d08b9246bb5c2e8cdc4f672e1b46618e3125df152cfdf", func := "loop.example/g00470/laws.FnExactFlood", spec := "fnExactFlood", apart := false, narrowed := true }
def FnExactFloodUptoSaid : Prop := fnExactFloodUptoRow.holds Try.pinned (OpenSpec.upto fnExactFloodSpec)

/-- 'laws.FnExactPathTo', WHERE WHAT IT READS IS OF BULK AT MOST 1048576: true; the input reads as it did. -/
def fnExactPathToUptoRow : OpenClaim := { program := "ytbdmnjobhfhinaa", sum := "67c63f1e1b4b970b4c4d08b9246bb5c2e8cdc4f672e1b46618e3125df152cfdf", func := "loop.example/g00470/laws.FnExactPathTo", spec := "fnExactPathTo", unfollowed := true, recurses := true, apart := false, narrowed := true }
def FnExactPathToUptoSaid : Prop := fnExactPathToUptoRow.holds Try.pinned (OpenSpec.upto fnExactPathToSpec)

/-- 'laws.FnExactSnapOf', WHERE WHAT IT READS IS OF BULK AT MOST 1048576: true; the input reads as it did. -/
def fnExactSnapOfUptoRow : OpenClaim := { program := "ytbdmnjobhfhinaa", sum := "67c63f1e1b4b970b4c4d08b9246bb5c2e8cdc4f672e1b46618e3125df152cfdf", func := "loop.example/g00470/laws.FnExactSnapOf", spec := "fnExactSnapOf", apart := false, narrowed := true }
def FnExactSnapOfUptoSaid : Prop := fnExactSnapOfUptoRow.holds Try.pinned (OpenSpec.upto fnExactSnapOfSpec)

/-- 'laws.FnFromSnap', WHERE WHAT IT READS IS OF BULK AT MOST 1048576: true; the input reads as it did. -/
def fnFromSnapUptoRow : OpenClaim := { program := "ytbdmnjobhfhinaa", sum := "67c63f1e1b4b970b4c4d08b9246bb5c2e8cdc4f672e1b46618e3125df152cfdf", func := "loop.example/g00470/laws.FnFromSnap", spec := "fnFromSnap", apart := false, narrowed := true }
def FnFromSnapUptoSaid : Prop := fnFromSnapUptoRow.holds Try.pinned (OpenSpec.upto fnFromSnapSpec)

/-- 'laws.FnHeardOnce', WHERE WHAT IT READS IS OF BULK AT MOST 1048576: true; the input reads as it did. -/
def fnHeardOnceUptoRow : OpenClaim := { program := "ytbdmnjobhfhinaa", sum := "67c63f1e1b4b970b4c4d08b9246bb5c2e8cdc4f672e1b46618e3125df152cfdf", func := "loop.example/g00470/laws.FnHeardOnce", spec := "fnHeardOnce", unfollowed := true, recurses := true, apart := false, narrowed := true }
def FnHeardOnceUptoSaid : Prop := fnHeardOnceUptoRow.holds Try.pinned (OpenSpec.upto fnHeardOnceSpec)

/-- 'laws.FnExactFabricOk', WHERE WHAT IT READS IS OF BULK AT MOST 1048576: true; the input reads as it did. -/
def fnExactFabricOkUptoRow : OpenClaim := { program := "ytbdmnjobhfhinaa", sum := "67c63f1e1b4b970b4c4d08b9246bb5c2e8cdc4f672e1b46618e3125df152cfdf", func := "loop.example/g00470/laws.FnExactFabricOk", spec := "fnExactFabricOk", apart := false, narrowed := true }
def FnExactFabricOkUptoSaid : Prop := fnExactFabricOkUptoRow.holds Try.pinned (OpenSpec.upto fnExactFabricOkSpec)

/-- 'laws.FnFloods', WHERE WHAT IT READS IS OF BULK AT MOST 1048576: true; the input reads as it did. -/
def fnFloodsUptoRow : OpenClaim := { program := "ytbdmnjobhfhinaa", sum := "67c63f1e1b4b970b4c4d08b9246bb5c2e8cdc4f672e1b46618e3125df152cfdf", func := "loop.example/g00470/laws.FnFloods", spec := "fnFloods", unfollowed := true, recurses := true, apart := false, narrowed := true }
def FnFloodsUptoSaid : Prop := fnFloodsUptoRow.holds Try.pinned (OpenSpec.upto fnFloodsSpec)

/-- 'laws.FnPaths', WHERE WHAT IT READS IS OF BULK AT MOST 1048576: true; the input reads as it did. -/
def fnPathsUptoRow : OpenClaim := { program := "ytbdmnjobhfhinaa", sum := "67c63f1e1b4b970b4c4d08b9246bb5c2e8cdc4f672e1b46618e3125df152cfdf", func := "loop.example/g00470/laws.FnPaths", spec := "fnPaths", unfollowed := true, recurses := true, apart := false, narrowed := true }
def FnPathsUptoSaid : Prop := fnPathsUptoRow.holds Try.pinned (OpenSpec.upto fnPathsSpec)

/-- 'laws.FnExactFabricNew', WHERE WHAT IT READS IS OF BULK AT MOST 1048576: true; the input reads as it did. -/
def fnExactFabricNewUptoRow : OpenClaim := { program := "ytbdmnjobhfhinaa", sum := "67c63f1e1b4b970b4c4d08b9246bb5c2e8cdc4f672e1b46618e3125df152cfdf", func := "loop.example/g00470/laws.FnExactFabricNew", spec := "fnExactFabricNew", apart := false, narrowed := true }
def FnExactFabricNewUptoSaid : Prop := fnExactFabricNewUptoRow.holds Try.pinned (OpenSpec.upto fnExactFabricNewSpec)

end Rows
end Go.Proofs.Ytbdmnjobhfhinaa
