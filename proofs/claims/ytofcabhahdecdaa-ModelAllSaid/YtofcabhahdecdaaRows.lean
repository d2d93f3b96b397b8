/-
  No cell of these rows narrows 'for every input' (looked for: loops, veiled, ifaces, maps, wideKeys, modest, calm, conditions, laid).
  DERIVED. THE GIVEN ROWS OF THIS SEAT. 6 by the template 'for every input the law returns true; each argument reads behind the call as it read before'; 0 by the template 'total and deterministic' (their statements: YtofcabhahdecdaaTotals.lean).
  GIVEN WITH THE SEED: the statements are not yours to turn. If you find one false, say at which input.
  Laid BY PROGRAM, IN A SANDBOX (cutbox-rows.mjs): the forced cells as the released guide's own fill.sh prints them over the translation 0be1e2701513ed80… (all of the seat's roots in one cut). By AI agents, Wed Nov 11 2026. No macro, syntax, notation, axiom, sorry.
-/
import Derived.Test.YtofcabhahdecdaaChecked
import GoSem.Claim
import GoSem.ClaimJoined
import GoSem.ClaimMapViews
import Derived.JoinedTies
import Derived.KernelRfl
namespace Go.Proofs.Ytofcabhahdecdaa
/- THE CELL 'sum', in the pinned program and in every row, IS THE sha256 OF THE DUMP (.gsa) THAT YtofcabhahdecdaaProg.lean LOADS. Nothing in Lean hashes anything: it is a label: what it is worth is what the hold of that sum in a sandbox is worth. -/
noncomputable def Try.pinned : Pinned := { name := "ytofcabhahdecdaa", sum := "0be1e2701513ed8075c68a05beec70e7c17f2db83d9d3408bef4f9a462555811", checked := Try.checked }
namespace Rows
def none {H : Type} : Left H := { results := [], args := [] }

/-- 'orangerylaw24.ModelParts': WHATEVER THE INPUT: true; the input reads as it did. -/
def modelPartsSpec : ChangeSpec := { name := "modelParts", fn := fun _ => fun
  | [d1, d2, d3] => { results := [.lit (.bool true)], args := [d1, d2, d3] }
  | _ => none }
def modelPartsRow : OpenClaim := { program := "ytofcabhahdecdaa", sum := "0be1e2701513ed8075c68a05beec70e7c17f2db83d9d3408bef4f9a462555811", func := "orangery/orangerylaw24.ModelParts", spec := "modelParts", inPlace := ["internal/bytealg.abigen_runtime_cmpstring"], unfollowed := true, recurses := true, apart := false }
def ModelPartsSaid : Prop := modelPartsRow.holds Try.pinned (OpenSpec.ofChange modelPartsSpec)

/-- ITS FALSE NEIGHBOUR: 'it returns false'. Refute it at one input. -/
def modelPartsWrong : ChangeSpec := { name := "modelParts", fn := fun _ => fun
  | [d1, d2, d3] => { results := [.lit (.bool false)], args := [d1, d2, d3] }
  | _ => none }
def ModelPartsWrongFalsely : Prop := modelPartsRow.holds Try.pinned (OpenSpec.ofChange modelPartsWrong)

/-- 'orangerylaw24.ModelLarge': WHATEVER THE INPUT: true; the input reads as it did. -/
def modelLargeSpec : ChangeSpec := { name := "modelLarge", fn := fun _ => fun
  | [d1, d2, d3, d4] => { results := [.lit (.bool true)], args := [d1, d2, d3, d4] }
  | _ => none }
def modelLargeRow : OpenClaim := { program := "ytofcabhahdecdaa", sum := "0be1e2701513ed8075c68a05beec70e7c17f2db83d9d3408bef4f9a462555811", func := "orangery/orangerylaw24.ModelLarge", spec := "modelLarge", inPlace := ["internal/bytealg.abigen_runtime_cmpstring"], unfollowed := true, recurses := true, apart := false }
def ModelLargeSaid : Prop := modelLargeRow.holds Try.pinned (OpenSpec.ofChange modelLargeSpec)

/-- ITS FALSE NEIGHBOUR: 'it returns false'. Refute it at one input. -/
def modelLargeWrong : ChangeSpec := { name := "modelLarge", fn := fun _ => fun
  | [d1, d2, d3, d4] => { results := [.lit (.bool false)], args := [d1, d2, d3, d4] }
  | _ => none }
def ModelLargeWrongFalsely : Prop := modelLargeRow.holds Try.pinned (OpenSpec.ofChange modelLargeWrong)

/-- 'orangerylaw24.ModelAdds': WHATEVER THE INPUT: true; the input reads as it did. -/
def modelAddsSpec : ChangeSpec := { name := "modelAdds", fn := fun _ => fun
  | [d1, d2, d3, d4] => { results := [.lit (.bool true)], args := [d1, d2, d3, d4] }
  | _ => none }
def modelAddsRow : OpenClaim := { program := "ytofcabhahdecdaa", sum := "0be1e2701513ed8075c68a05beec70e7c17f2db83d9d3408bef4f9a462555811", func := "orangery/orangerylaw24.ModelAdds", spec := "modelAdds", inPlace := ["internal/bytealg.abigen_runtime_cmpstring"], unfollowed := true, recurses := true, apart := false }
def ModelAddsSaid : Prop := modelAddsRow.holds Try.pinned (OpenSpec.ofChange modelAddsSpec)

/-- ITS FALSE NEIGHBOUR: 'it returns false'. Refute it at one input. -/
def modelAddsWrong : ChangeSpec := { name := "modelAdds", fn := fun _ => fun
  | [d1, d2, d3, d4] => { results := [.lit (.bool false)], args := [d1, d2, d3, d4] }
  | _ => none }
def ModelAddsWrongFalsely : Prop := modelAddsRow.holds Try.pinned (OpenSpec.ofChange modelAddsWrong)

/-- 'orangerylaw24.ModelAll': WHATEVER THE INPUT: true; the input reads as it did. -/
def modelAllSpec : ChangeSpec := { name := "modelAll", fn := fun _ => fun
  | [d1, d2, d3, d4] => { results := [.lit (.bool true)], args := [d1, d2, d3, d4] }
  | _ => none }
def modelAllRow : OpenClaim := { program := "ytofcabhahdecdaa", sum := "0be1e2701513ed8075c68a05beec70e7c17f2db83d9d3408bef4f9a462555811", func := "orangery/orangerylaw24.ModelAll", spec := "modelAll", inPlace := ["internal/bytealg.abigen_runtime_cmpstring"], unfollowed := true, recurses := true, apart := false }
def ModelAllSaid : Prop := modelAllRow.holds Try.pinned (OpenSpec.ofChange modelAllSpec)

/-- ITS FALSE NEIGHBOUR: 'it returns false'. Refute it at one input. -/
def modelAllWrong : ChangeSpec := { name := "modelAll", fn := fun _ => fun
  | [d1, d2, d3, d4] => { results := [.lit (.bool false)], args := [d1, d2, d3, d4] }
  | _ => none }
def ModelAllWrongFalsely : Prop := modelAllRow.holds Try.pinned (OpenSpec.ofChange modelAllWrong)

/-- 'orangerylaw24.ModelKeys': WHATEVER THE INPUT: true; the input reads as it did. -/
def modelKeysSpec : ChangeSpec := { name := "modelKeys", fn := fun _ => fun
  | [d1, d2] => { results := [.lit (.bool true)], args := [d1, d2] }
  | _ => none }
def modelKeysRow : OpenClaim := { program := "ytofcabhahdecdaa", sum := "0be1e2701513ed8075c68a05beec70e7c17f2db83d9d3408bef4f9a462555811", func := "orangery/orangerylaw24.ModelKeys", spec := "modelKeys", inPlace := ["internal/bytealg.abigen_runtime_cmpstring"], unfollowed := true, recurses := true, apart := false }
def ModelKeysSaid : Prop := modelKeysRow.holds Try.pinned (OpenSpec.ofChange modelKeysSpec)

/-- ITS FALSE NEIGHBOUR: 'it returns false'. Refute it at one input. -/
def modelKeysWrong : ChangeSpec := { name := "modelKeys", fn := fun _ => fun
  | [d1, d2] => { results := [.lit (.bool false)], args := [d1, d2] }
  | _ => none }
def ModelKeysWrongFalsely : Prop := modelKeysRow.holds Try.pinned (OpenSpec.ofChange modelKeysWrong)

/-- 'orangerylaw24.ModelGets': WHATEVER THE INPUT: true; the input reads as it did. -/
def modelGetsSpec : ChangeSpec := { name := "modelGets", fn := fun _ => fun
  | [d1, d2, d3] => { results := [.lit (.bool true)], args := [d1, d2, d3] }
  | _ => none }
def modelGetsRow : OpenClaim := { program := "ytofcabhahdecdaa", sum := "0be1e2701513ed8075c68a05beec70e7c17f2db83d9d3408bef4f9a462555811", func := "orangery/orangerylaw24.ModelGets", spec := "modelGets", inPlace := ["internal/bytealg.abigen_runtime_cmpstring"], unfollowed := true, recurses := true, apart := false }
def ModelGetsSaid : Prop := modelGetsRow.holds Try.pinned (OpenSpec.ofChange modelGetsSpec)

/-- ITS FALSE NEIGHBOUR: 'it returns false'. Refute it at one input. -/
def modelGetsWrong : ChangeSpec := { name := "modelGets", fn := fun _ => fun
  | [d1, d2, d3] => { results := [.lit (.bool false)], args := [d1, d2, d3] }
  | _ => none }
def ModelGetsWrongFalsely : Prop := modelGetsRow.holds Try.pinned (OpenSpec.ofChange modelGetsWrong)

/- THE SECOND FORM. 'bulk': how many values and letters a reading holds, each counted each time it is reached (what is shared counts as often as it is met; a slice's spare places count too). A statement '..UptoSaid' is the law's where the arguments, and the package variables that the reading takes, are together of bulk at most 1048576: NARROWER than '..Said'. Prove '..Said' where nothing that the law and all that it calls make is longer than what came in: it says more and counts as full. Else prove '..UptoSaid'. A law counts once. -/
mutual
def uptoBulk {H : Type} : DataW H → Nat
  | .lit (.string bytes) => bytes.length + 1
  | .lit _ => 1
  | .nil => 1
  | .ptr d => uptoBulk d + 1
  | .slice elems spare => uptoBulkAll elems + uptoBulkAll spare + 1
  | .agg parts => uptoBulkAll parts + 1
  | .iface _ d => uptoBulk d + 1
  | .map entries => uptoBulkEntries entries + 1
  | .held _ => 1
def uptoBulkAll {H : Type} : List (DataW H) → Nat
  | [] => 0
  | d :: r => uptoBulk d + uptoBulkAll r
def uptoBulkEntries {H : Type} : List (Lit × DataW H) → Nat
  | [] => 0
  | x :: r => uptoBulkEntry x + uptoBulkEntries r
def uptoBulkEntry {H : Type} : Lit × DataW H → Nat
  | (.string bytes, d) => bytes.length + uptoBulk d + 1
  | (_, d) => uptoBulk d + 1
 end
def uptoSmall : (H : Type) → List (DataW H) → Bool := fun _ ds => decide (uptoBulkAll ds ≤ 1048576)
def OpenSpec.upto (s : _root_.Go.ChangeSpec) : _root_.Go.OpenSpec := { _root_.Go.OpenSpec.ofChange s with cond := some uptoSmall }

/-- 'orangerylaw24.ModelParts', WHERE WHAT IT READS IS OF BULK AT MOST 1048576: true; the input reads as it did. -/
def modelPartsUptoRow : OpenClaim := { program := "ytofcabhahdecdaa", sum := "0be1e2701513ed8075c68a05beec70e7c17f2db83d9d3408bef4f9a462555811", func := "orangery/orangerylaw24.ModelParts", spec := "modelParts", inPlace := ["internal/bytealg.abigen_runtime_cmpstring"], unfollowed := true, recurses := true, apart := false, narrowed := true }
def ModelPartsUptoSaid : Prop := modelPartsUptoRow.holds Try.pinned (OpenSpec.upto modelPartsSpec)

/-- 'orangerylaw24.ModelLarge', WHERE WHAT IT READS IS OF BULK AT MOST 1048576: true; the input reads as it did. -/
def modelLargeUptoRow : OpenClaim := { program := "ytofcabhahdecdaa", sum := "0be1e2701513ed8075c68a05beec70e7c17f2db83d9d3408bef4f9a462555811", func := "orangery/orangerylaw24.ModelLarge", spec := "modelLarge", inPlace := ["internal/bytealg.abigen_runtime_cmpstring"], unfollowed := true, recurses := true, apart := false, narrowed := true }
def ModelLargeUptoSaid : Prop := modelLargeUptoRow.holds Try.pinned (OpenSpec.upto modelLargeSpec)

/-- 'orangerylaw24.ModelAdds', WHERE WHAT IT READS IS OF BULK AT MOST 1048576: true; the input reads as it did. -/
def modelAddsUptoRow : OpenClaim := { program := "ytofcabhahdecdaa", sum := "0be1e2701513ed8075c68a05beec70e7c17f2db83d9d3408bef4f9a462555811", func := "orangery/orangerylaw24.ModelAdds", spec := "modelAdds", inPlace := ["internal/bytealg.abigen_runtime_cmpstring"], unfollowed := true, recurses := true, apart := false, narrowed := true }
def ModelAddsUptoSaid : Prop := modelAddsUptoRow.holds Try.pinned (OpenSpec.upto modelAddsSpec)

/-- 'orangerylaw24.ModelAll', WHERE WHAT IT READS IS OF BULK AT MOST 1048576: true; the input reads as it did. -/
def modelAllUptoRow : OpenClaim := { program := "ytofcabhahdecdaa", sum := "0be1e2701513ed8075c68a05beec70e7c17f2db83d9d3408bef4f9a462555811", func := "orangery/orangerylaw24.ModelAll", spec := "modelAll", inPlace := ["internal/bytealg.abigen_runtime_cmpstring"], unfollowed := true, recurses := true, apart := false, narrowed := true }
def ModelAllUptoSaid : Prop := modelAllUptoRow.holds Try.pinned (OpenSpec.upto modelAllSpec)

/-- 'orangerylaw24.ModelKeys', WHERE WHAT IT READS IS OF BULK AT MOST 1048576: true; the input reads as it did. -/
def modelKeysUptoRow : OpenClaim := { program := "ytofcabhahdecdaa", sum := "0be1e2701513ed8075c68a05beec70e7c17f2db83d9d3408bef4f9a462555811", func := "orangery/orangerylaw24.ModelKeys", spec := "modelKeys", inPlace := ["internal/bytealg.abigen_runtime_cmpstring"], unfollowed := true, recurses := true, apart := false, narrowed := true }
def ModelKeysUptoSaid : Prop := modelKeysUptoRow.holds Try.pinned (OpenSpec.upto modelKeysSpec)

/-- 'orangerylaw24.ModelGets', WHERE WHAT IT READS IS OF BULK AT MOST 1048576: true; the input reads as it did. -/
def modelGetsUptoRow : OpenClaim := { program := "ytofcabhahdecdaa", sum := "0be1e2701513ed8075c68a05beec70e7c17f2db83d9d3408bef4f9a462555811", func := "orangery/orangerylaw24.ModelGets", spec := "modelGets", inPlace := ["internal/bytealg.abigen_runtime_cmpstring"], unfollowed := true, recurses := true, apart := false, narrowed := true }
def ModelGetsUptoSaid : Prop := modelGetsUptoRow.holds Try.pinned (OpenSpec.upto modelGetsSpec)

end Rows
end Go.Proofs.Ytofcabhahdecdaa
