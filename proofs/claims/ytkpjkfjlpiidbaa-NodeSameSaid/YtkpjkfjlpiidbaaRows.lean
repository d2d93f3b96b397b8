/-
  No cell of these rows narrows 'for every input' (looked for: loops, veiled, ifaces, maps, wideKeys, modest, calm, conditions, laid).
  DERIVED. THE GIVEN ROWS OF THIS SEAT. 6 by the template 'for every input the law returns true; each argument reads behind the call as it read before'; 0 by the template 'total and deterministic' (their statements: YtkpjkfjlpiidbaaTotals.lean).
  GIVEN WITH THE SEED: the statements are not yours to turn. If you find one false, say at which input.
  Laid BY PROGRAM, IN A SANDBOX (cutbox-rows.mjs): the forced cells as the released guide's own fill.sh prints them over the translation a586fb4e321318c3… (all of the seat's roots in one cut). By AI agents, Wed Nov 11 2026. No macro, syntax, notation, axiom, sorry.
-/
import Derived.Test.YtkpjkfjlpiidbaaChecked
import GoSem.Claim
import GoSem.ClaimJoined
import GoSem.ClaimMapViews
import Derived.JoinedTies
import Derived.KernelRfl
namespace Go.Proofs.Ytkpjkfjlpiidbaa
/- THE CELL 'sum', in the pinned program and in every row, IS THE sha256 OF THE DUMP (.gsa) THAT YtkpjkfjlpiidbaaProg.lean LOADS. Nothing in Lean hashes anything: it is a label: what it is worth is what the hold of that sum in a sandbox is worth. -/
noncomputable def Try.pinned : Pinned := { name := "ytkpjkfjlpiidbaa", sum := "a586fb4e321318c34f04133375d48ff2242c3eeda262e60a114404474887a72d", checked := Try.checked }
namespace Rows
def none {H : Type} : Left H := { results := [], args := [] }

/-- 'orangerylaw09.NodeAll': WHATEVER THE INPUT: true; the input reads as it did. -/
def nodeAllSpec : ChangeSpec := { name := "nodeAll", fn := fun _ => fun
  | [d1, d2, d3, d4] => { results := [.lit (.bool true)], args := [d1, d2, d3, d4] }
  | _ => none }
def nodeAllRow : OpenClaim := { program := "ytkpjkfjlpiidbaa", sum := "a586fb4e321318c34f04133375d48ff2242c3eeda262e60a114404474887a72d", func := "orangery/orangerylaw09.NodeAll", spec := "nodeAll", inPlace := ["internal/bytealg.abigen_runtime_cmpstring"], unfollowed := true, recurses := true, apart := false }
def NodeAllSaid : Prop := nodeAllRow.holds Try.pinned (OpenSpec.ofChange nodeAllSpec)

/-- ITS FALSE NEIGHBOUR: 'it returns false'. Refute it at one input. -/
def nodeAllWrong : ChangeSpec := { name := "nodeAll", fn := fun _ => fun
  | [d1, d2, d3, d4] => { results := [.lit (.bool false)], args := [d1, d2, d3, d4] }
  | _ => none }
def NodeAllWrongFalsely : Prop := nodeAllRow.holds Try.pinned (OpenSpec.ofChange nodeAllWrong)

/-- 'orangerylaw09.NodeRaw': WHATEVER THE INPUT: true; the input reads as it did. -/
def nodeRawSpec : ChangeSpec := { name := "nodeRaw", fn := fun _ => fun
  | [d1, d2] => { results := [.lit (.bool true)], args := [d1, d2] }
  | _ => none }
def nodeRawRow : OpenClaim := { program := "ytkpjkfjlpiidbaa", sum := "a586fb4e321318c34f04133375d48ff2242c3eeda262e60a114404474887a72d", func := "orangery/orangerylaw09.NodeRaw", spec := "nodeRaw", inPlace := ["internal/bytealg.abigen_runtime_cmpstring"], unfollowed := true, recurses := true, apart := false }
def NodeRawSaid : Prop := nodeRawRow.holds Try.pinned (OpenSpec.ofChange nodeRawSpec)

/-- ITS FALSE NEIGHBOUR: 'it returns false'. Refute it at one input. -/
def nodeRawWrong : ChangeSpec := { name := "nodeRaw", fn := fun _ => fun
  | [d1, d2] => { results := [.lit (.bool false)], args := [d1, d2] }
  | _ => none }
def NodeRawWrongFalsely : Prop := nodeRawRow.holds Try.pinned (OpenSpec.ofChange nodeRawWrong)

/-- 'orangerylaw09.NodeWeights': WHATEVER THE INPUT: true; the input reads as it did. -/
def nodeWeightsSpec : ChangeSpec := { name := "nodeWeights", fn := fun _ => fun
  | [d1, d2, d3] => { results := [.lit (.bool true)], args := [d1, d2, d3] }
  | _ => none }
def nodeWeightsRow : OpenClaim := { program := "ytkpjkfjlpiidbaa", sum := "a586fb4e321318c34f04133375d48ff2242c3eeda262e60a114404474887a72d", func := "orangery/orangerylaw09.NodeWeights", spec := "nodeWeights", inPlace := ["internal/bytealg.abigen_runtime_cmpstring"], unfollowed := true, recurses := true, apart := false }
def NodeWeightsSaid : Prop := nodeWeightsRow.holds Try.pinned (OpenSpec.ofChange nodeWeightsSpec)

/-- ITS FALSE NEIGHBOUR: 'it returns false'. Refute it at one input. -/
def nodeWeightsWrong : ChangeSpec := { name := "nodeWeights", fn := fun _ => fun
  | [d1, d2, d3] => { results := [.lit (.bool false)], args := [d1, d2, d3] }
  | _ => none }
def NodeWeightsWrongFalsely : Prop := nodeWeightsRow.holds Try.pinned (OpenSpec.ofChange nodeWeightsWrong)

/-- 'orangerylaw09.NodeHeavy': WHATEVER THE INPUT: true; the input reads as it did. -/
def nodeHeavySpec : ChangeSpec := { name := "nodeHeavy", fn := fun _ => fun
  | [d1, d2, d3] => { results := [.lit (.bool true)], args := [d1, d2, d3] }
  | _ => none }
def nodeHeavyRow : OpenClaim := { program := "ytkpjkfjlpiidbaa", sum := "a586fb4e321318c34f04133375d48ff2242c3eeda262e60a114404474887a72d", func := "orangery/orangerylaw09.NodeHeavy", spec := "nodeHeavy", inPlace := ["internal/bytealg.abigen_runtime_cmpstring"], unfollowed := true, recurses := true, apart := false }
def NodeHeavySaid : Prop := nodeHeavyRow.holds Try.pinned (OpenSpec.ofChange nodeHeavySpec)

/-- ITS FALSE NEIGHBOUR: 'it returns false'. Refute it at one input. -/
def nodeHeavyWrong : ChangeSpec := { name := "nodeHeavy", fn := fun _ => fun
  | [d1, d2, d3] => { results := [.lit (.bool false)], args := [d1, d2, d3] }
  | _ => none }
def NodeHeavyWrongFalsely : Prop := nodeHeavyRow.holds Try.pinned (OpenSpec.ofChange nodeHeavyWrong)

/-- 'orangerylaw09.NodeFull': WHATEVER THE INPUT: true; the input reads as it did. -/
def nodeFullSpec : ChangeSpec := { name := "nodeFull", fn := fun _ => fun
  | [d1, d2] => { results := [.lit (.bool true)], args := [d1, d2] }
  | _ => none }
def nodeFullRow : OpenClaim := { program := "ytkpjkfjlpiidbaa", sum := "a586fb4e321318c34f04133375d48ff2242c3eeda262e60a114404474887a72d", func := "orangery/orangerylaw09.NodeFull", spec := "nodeFull", inPlace := ["internal/bytealg.abigen_runtime_cmpstring"], unfollowed := true, recurses := true, apart := false }
def NodeFullSaid : Prop := nodeFullRow.holds Try.pinned (OpenSpec.ofChange nodeFullSpec)

/-- ITS FALSE NEIGHBOUR: 'it returns false'. Refute it at one input. -/
def nodeFullWrong : ChangeSpec := { name := "nodeFull", fn := fun _ => fun
  | [d1, d2] => { results := [.lit (.bool false)], args := [d1, d2] }
  | _ => none }
def NodeFullWrongFalsely : Prop := nodeFullRow.holds Try.pinned (OpenSpec.ofChange nodeFullWrong)

/-- 'orangerylaw09.NodeSame': WHATEVER THE INPUT: true; the input reads as it did. -/
def nodeSameSpec : ChangeSpec := { name := "nodeSame", fn := fun _ => fun
  | [d1, d2, d3, d4, d5] => { results := [.lit (.bool true)], args := [d1, d2, d3, d4, d5] }
  | _ => none }
def nodeSameRow : OpenClaim := { program := "ytkpjkfjlpiidbaa", sum := "a586fb4e321318c34f04133375d48ff2242c3eeda262e60a114404474887a72d", func := "orangery/orangerylaw09.NodeSame", spec := "nodeSame", inPlace := ["internal/bytealg.abigen_runtime_cmpstring"], unfollowed := true, recurses := true, apart := false }
def NodeSameSaid : Prop := nodeSameRow.holds Try.pinned (OpenSpec.ofChange nodeSameSpec)

/-- ITS FALSE NEIGHBOUR: 'it returns false'. Refute it at one input. -/
def nodeSameWrong : ChangeSpec := { name := "nodeSame", fn := fun _ => fun
  | [d1, d2, d3, d4, d5] => { results := [.lit (.bool false)], args := [d1, d2, d3, d4, d5] }
  | _ => none }
def NodeSameWrongFalsely : Prop := nodeSameRow.holds Try.pinned (OpenSpec.ofChange nodeSameWrong)

/- THE SECOND FORM. 'bulk': how many values and letters a reading holds, each counted each time it is reached (what is shared counts as often as it is met; a slice's spare places count too). A statement '..UptoSaid' is the law's where the arguments, and the package variables that the reading takes, are together of bulk at most 1048576: NARROWER than '..Said'. Prove '..Said' where nothing that the law and all that it calls make is longer than what came in: it says more and counts as full. Else prove '..UptoSaid'. A law counts once. -/
mutual
def uptoBulk {H : Type} : DataW H → Nat
  | .lit (.string bytes) => bytes.length + 1
  | .lit _ => 1
  | .nil => 1
  | .ptr d => uptoBulk d + 1
  | .slice elems spare => uptoBulkAll elems + uptoBulkAll spare + 1
  | .agg parts => uptoBulkAll parts + 1
  | .iface _ d => uptoBulk d + 1
  | .map entries => uptoBulkEntries entries + 1
  | .held _ => 1
def uptoBulkAll {H : Type} : List (DataW H) → Nat
  | [] => 0
  | d :: r => uptoBulk d + uptoBulkAll r
def uptoBulkEntries {H : Type} : List (Lit × DataW H) → Nat
  | [] => 0
  | x :: r => uptoBulkEntry x + uptoBulkEntries r
def uptoBulkEntry {H : Type} : Lit × DataW H → Nat
  | (.string bytes, d) => bytes.length + uptoBulk d + 1
  | (_, d) => uptoBulk d + 1
 end
def uptoSmall : (H : Type) → List (DataW H) → Bool := fun _ ds => decide (uptoBulkAll ds ≤ 1048576)
def OpenSpec.upto (s : _root_.Go.ChangeSpec) : _root_.Go.OpenSpec := { _root_.Go.OpenSpec.ofChange s with cond := some uptoSmall }

/-- 'orangerylaw09.NodeAll', WHERE WHAT IT READS IS OF BULK AT MOST 1048576: true; the input reads as it did. -/
def nodeAllUptoRow : OpenClaim := { program := "ytkpjkfjlpiidbaa", sum := "a586fb4e321318c34f04133375d48ff2242c3eeda262e60a114404474887a72d", func := "orangery/orangerylaw09.NodeAll", spec := "nodeAll", inPlace := ["internal/bytealg.abigen_runtime_cmpstring"], unfollowed := true, recurses := true, apart := false, narrowed := true }
def NodeAllUptoSaid : Prop := nodeAllUptoRow.holds Try.pinned (OpenSpec.upto nodeAllSpec)

/-- 'orangerylaw09.NodeRaw', WHERE WHAT IT READS IS OF BULK AT MOST 1048576: true; the input reads as it did. -/
def nodeRawUptoRow : OpenClaim := { program := "ytkpjkfjlpiidbaa", sum := "a586fb4e321318c34f04133375d48ff2242c3eeda262e60a114404474887a72d", func := "orangery/orangerylaw09.NodeRaw", spec := "nodeRaw", inPlace := ["internal/bytealg.abigen_runtime_cmpstring"], unfollowed := true, recurses := true, apart := false, narrowed := true }
def NodeRawUptoSaid : Prop := nodeRawUptoRow.holds Try.pinned (OpenSpec.upto nodeRawSpec)

/-- 'orangerylaw09.NodeWeights', WHERE WHAT IT READS IS OF BULK AT MOST 1048576: true; the input reads as it did. -/
def nodeWeightsUptoRow : OpenClaim := { program := "ytkpjkfjlpiidbaa", sum := "a586fb4e321318c34f04133375d48ff2242c3eeda262e60a114404474887a72d", func := "orangery/orangerylaw09.NodeWeights", spec := "nodeWeights", inPlace := ["internal/bytealg.abigen_runtime_cmpstring"], unfollowed := true, recurses := true, apart := false, narrowed := true }
def NodeWeightsUptoSaid : Prop := nodeWeightsUptoRow.holds Try.pinned (OpenSpec.upto nodeWeightsSpec)

/-- 'orangerylaw09.NodeHeavy', WHERE WHAT IT READS IS OF BULK AT MOST 1048576: true; the input reads as it did. -/
def nodeHeavyUptoRow : OpenClaim := { program := "ytkpjkfjlpiidbaa", sum := "a586fb4e321318c34f04133375d48ff2242c3eeda262e60a114404474887a72d", func := "orangery/orangerylaw09.NodeHeavy", spec := "nodeHeavy", inPlace := ["internal/bytealg.abigen_runtime_cmpstring"], unfollowed := true, recurses := true, apart := false, narrowed := true }
def NodeHeavyUptoSaid : Prop := nodeHeavyUptoRow.holds Try.pinned (OpenSpec.upto nodeHeavySpec)

/-- 'orangerylaw09.NodeFull', WHERE WHAT IT READS IS OF BULK AT MOST 1048576: true; the input reads as it did. -/
def nodeFullUptoRow : OpenClaim := { program := "ytkpjkfjlpiidbaa", sum := "a586fb4e321318c34f04133375d48ff2242c3eeda262e60a114404474887a72d", func := "orangery/orangerylaw09.NodeFull", spec := "nodeFull", inPlace := ["internal/bytealg.abigen_runtime_cmpstring"], unfollowed := true, recurses := true, apart := false, narrowed := true }
def NodeFullUptoSaid : Prop := nodeFullUptoRow.holds Try.pinned (OpenSpec.upto nodeFullSpec)

/-- 'orangerylaw09.NodeSame', WHERE WHAT IT READS IS OF BULK AT MOST 1048576: true; the input reads as it did. -/
def nodeSameUptoRow : OpenClaim := { program := "ytkpjkfjlpiidbaa", sum := "a586fb4e321318c34f04133375d48ff2242c3eeda262e60a114404474887a72d", func := "orangery/orangerylaw09.NodeSame", spec := "nodeSame", inPlace := ["internal/bytealg.abigen_runtime_cmpstring"], unfollowed := true, recurses := true, apart := false, narrowed := true }
def NodeSameUptoSaid : Prop := nodeSameUptoRow.holds Try.pinned (OpenSpec.upto nodeSameSpec)

end Rows
end Go.Proofs.Ytkpjkfjlpiidbaa
