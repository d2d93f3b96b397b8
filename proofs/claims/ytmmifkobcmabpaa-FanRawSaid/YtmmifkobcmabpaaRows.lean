/-
  No cell of these rows narrows 'for every input' (looked for: loops, veiled, ifaces, maps, wideKeys, modest, calm, conditions, laid).
  DERIVED. THE GIVEN ROWS OF THIS SEAT. 11 by the template 'for every input the law returns true; each argument reads behind the call as it read before'; 0 by the template 'total and deterministic' (their statements: YtmmifkobcmabpaaTotals.lean).
  GIVEN WITH THE SEED: the statements are not yours to turn. If you find one false, say at which input.
  Laid BY PROGRAM, IN A SANDBOX (cutbox-rows.mjs): the forced cells as the released guide's own fill.sh prints them over the translation 1b8c221f17920079… (all of the seat's roots in one cut). By AI agents, Wed Nov 11 2026. No macro, syntax, notation, axiom, sorry.
-/
import Derived.Test.YtmmifkobcmabpaaChecked
import GoSem.Claim
import GoSem.ClaimJoined
import GoSem.ClaimMapViews
import Derived.JoinedTies
import Derived.KernelRfl
namespace Go.Proofs.Ytmmifkobcmabpaa
/- THE CELL 'sum', in the pinned program and in every row, IS THE sha256 OF THE DUMP (.gsa) THAT YtmmifkobcmabpaaProg.lean LOADS. Nothing in Lean hashes anything: it is a label: what it is worth is what the hold of that sum in a sandbox is worth. -/
noncomputable def Try.pinned : Pinned := { name := "ytmmifkobcmabpaa", sum := "1b8c221f17920079612de0c565b4ea49f3615f666768d885c57b8e87b11bd745", checked := Try.checked }
namespace Rows
def none {H : Type} : Left H := { results := [], args := [] }

/-- 'orangerylaw08.FanRaw': WHATEVER THE INPUT: true; the input reads as it did. -/
def fanRawSpec : ChangeSpec := { name := "fanRaw", fn := fun _ => fun
  | [d1, d2, d3] => { results := [.lit (.bool true)], args := [d1, d2, d3] }
  | _ => none }
def fanRawRow : OpenClaim := { program := "ytmmifkobcmabpaa", sum := "1b8c221f17920079612de0c565b4ea49f3615f666768d885c57b8e87b11bd745", func := "orangery/orangerylaw08.FanRaw", spec := "fanRaw", inPlace := ["internal/bytealg.abigen_runtime_cmpstring"], apart := false }
def FanRawSaid : Prop := fanRawRow.holds Try.pinned (OpenSpec.ofChange fanRawSpec)

/-- ITS FALSE NEIGHBOUR: 'it returns false'. Refute it at one input. -/
def fanRawWrong : ChangeSpec := { name := "fanRaw", fn := fun _ => fun
  | [d1, d2, d3] => { results := [.lit (.bool false)], args := [d1, d2, d3] }
  | _ => none }
def FanRawWrongFalsely : Prop := fanRawRow.holds Try.pinned (OpenSpec.ofChange fanRawWrong)

/-- 'orangerylaw08.FanKids': WHATEVER THE INPUT: true; the input reads as it did. -/
def fanKidsSpec : ChangeSpec := { name := "fanKids", fn := fun _ => fun
  | [d1, d2] => { results := [.lit (.bool true)], args := [d1, d2] }
  | _ => none }
def fanKidsRow : OpenClaim := { program := "ytmmifkobcmabpaa", sum := "1b8c221f17920079612de0c565b4ea49f3615f666768d885c57b8e87b11bd745", func := "orangery/orangerylaw08.FanKids", spec := "fanKids", inPlace := ["internal/bytealg.abigen_runtime_cmpstring"], apart := false }
def FanKidsSaid : Prop := fanKidsRow.holds Try.pinned (OpenSpec.ofChange fanKidsSpec)

/-- ITS FALSE NEIGHBOUR: 'it returns false'. Refute it at one input. -/
def fanKidsWrong : ChangeSpec := { name := "fanKids", fn := fun _ => fun
  | [d1, d2] => { results := [.lit (.bool false)], args := [d1, d2] }
  | _ => none }
def FanKidsWrongFalsely : Prop := fanKidsRow.holds Try.pinned (OpenSpec.ofChange fanKidsWrong)

/-- 'orangerylaw08.FanInserts': WHATEVER THE INPUT: true; the input reads as it did. -/
def fanInsertsSpec : ChangeSpec := { name := "fanInserts", fn := fun _ => fun
  | [d1, d2, d3, d4, d5] => { results := [.lit (.bool true)], args := [d1, d2, d3, d4, d5] }
  | _ => none }
def fanInsertsRow : OpenClaim := { program := "ytmmifkobcmabpaa", sum := "1b8c221f17920079612de0c565b4ea49f3615f666768d885c57b8e87b11bd745", func := "orangery/orangerylaw08.FanInserts", spec := "fanInserts", inPlace := ["internal/bytealg.abigen_runtime_cmpstring"], apart := false }
def FanInsertsSaid : Prop := fanInsertsRow.holds Try.pinned (OpenSpec.ofChange fanInsertsSpec)

/-- ITS FALSE NEIGHBOUR: 'it returns false'. Refute it at one input. -/
def fanInsertsWrong : ChangeSpec := { name := "fanInserts", fn := fun _ => fun
  | [d1, d2, d3, d4, d5] => { results := [.lit (.bool false)], args := [d1, d2, d3, d4, d5] }
  | _ => none }
def FanInsertsWrongFalsely : Prop := fanInsertsRow.holds Try.pinned (OpenSpec.ofChange fanInsertsWrong)

/-- 'orangerylaw08.FanAll': WHATEVER THE INPUT: true; the input reads as it did. -/
def fanAllSpec : ChangeSpec := { name := "fanAll", fn := fun _ => fun
  | [d1, d2, d3, d4, d5, d6] => { results := [.lit (.bool true)], args := [d1, d2, d3, d4, d5, d6] }
  | _ => none }
def fanAllRow : OpenClaim := { program := "ytmmifkobcmabpaa", sum := "1b8c221f17920079612de0c565b4ea49f3615f666768d885c57b8e87b11bd745", func := "orangery/orangerylaw08.FanAll", spec := "fanAll", inPlace := ["internal/bytealg.abigen_runtime_cmpstring"], apart := false }
def FanAllSaid : Prop := fanAllRow.holds Try.pinned (OpenSpec.ofChange fanAllSpec)

/-- ITS FALSE NEIGHBOUR: 'it returns false'. Refute it at one input. -/
def fanAllWrong : ChangeSpec := { name := "fanAll", fn := fun _ => fun
  | [d1, d2, d3, d4, d5, d6] => { results := [.lit (.bool false)], args := [d1, d2, d3, d4, d5, d6] }
  | _ => none }
def FanAllWrongFalsely : Prop := fanAllRow.holds Try.pinned (OpenSpec.ofChange fanAllWrong)

/-- 'orangerylaw08.FanHalves': WHATEVER THE INPUT: true; the input reads as it did. -/
def fanHalvesSpec : ChangeSpec := { name := "fanHalves", fn := fun _ => fun
  | [d1, d2, d3] => { results := [.lit (.bool true)], args := [d1, d2, d3] }
  | _ => none }
def fanHalvesRow : OpenClaim := { program := "ytmmifkobcmabpaa", sum := "1b8c221f17920079612de0c565b4ea49f3615f666768d885c57b8e87b11bd745", func := "orangery/orangerylaw08.FanHalves", spec := "fanHalves", inPlace := ["internal/bytealg.abigen_runtime_cmpstring"], apart := false }
def FanHalvesSaid : Prop := fanHalvesRow.holds Try.pinned (OpenSpec.ofChange fanHalvesSpec)

/-- ITS FALSE NEIGHBOUR: 'it returns false'. Refute it at one input. -/
def fanHalvesWrong : ChangeSpec := { name := "fanHalves", fn := fun _ => fun
  | [d1, d2, d3] => { results := [.lit (.bool false)], args := [d1, d2, d3] }
  | _ => none }
def FanHalvesWrongFalsely : Prop := fanHalvesRow.holds Try.pinned (OpenSpec.ofChange fanHalvesWrong)

/-- 'orangerylaw07.LeafAll': WHATEVER THE INPUT: true; the input reads as it did. -/
def leafAllSpec : ChangeSpec := { name := "leafAll", fn := fun _ => fun
  | [d1, d2, d3] => { results := [.lit (.bool true)], args := [d1, d2, d3] }
  | _ => none }
def leafAllRow : OpenClaim := { program := "ytmmifkobcmabpaa", sum := "1b8c221f17920079612de0c565b4ea49f3615f666768d885c57b8e87b11bd745", func := "orangery/orangerylaw07.LeafAll", spec := "leafAll", inPlace := ["internal/bytealg.abigen_runtime_cmpstring"], apart := false }
def LeafAllSaid : Prop := leafAllRow.holds Try.pinned (OpenSpec.ofChange leafAllSpec)

/-- ITS FALSE NEIGHBOUR: 'it returns false'. Refute it at one input. -/
def leafAllWrong : ChangeSpec := { name := "leafAll", fn := fun _ => fun
  | [d1, d2, d3] => { results := [.lit (.bool false)], args := [d1, d2, d3] }
  | _ => none }
def LeafAllWrongFalsely : Prop := leafAllRow.holds Try.pinned (OpenSpec.ofChange leafAllWrong)

/-- 'orangerylaw07.LeafRaw': WHATEVER THE INPUT: true; the input reads as it did. -/
def leafRawSpec : ChangeSpec := { name := "leafRaw", fn := fun _ => fun
  | [d] => { results := [.lit (.bool true)], args := [d] }
  | _ => none }
def leafRawRow : OpenClaim := { program := "ytmmifkobcmabpaa", sum := "1b8c221f17920079612de0c565b4ea49f3615f666768d885c57b8e87b11bd745", func := "orangery/orangerylaw07.LeafRaw", spec := "leafRaw", inPlace := ["internal/bytealg.abigen_runtime_cmpstring"], apart := false }
def LeafRawSaid : Prop := leafRawRow.holds Try.pinned (OpenSpec.ofChange leafRawSpec)

/-- ITS FALSE NEIGHBOUR: 'it returns false'. Refute it at one input. -/
def leafRawWrong : ChangeSpec := { name := "leafRaw", fn := fun _ => fun
  | [d] => { results := [.lit (.bool false)], args := [d] }
  | _ => none }
def LeafRawWrongFalsely : Prop := leafRawRow.holds Try.pinned (OpenSpec.ofChange leafRawWrong)

/-- 'orangerylaw07.LeafPuts': WHATEVER THE INPUT: true; the input reads as it did. -/
def leafPutsSpec : ChangeSpec := { name := "leafPuts", fn := fun _ => fun
  | [d1, d2, d3] => { results := [.lit (.bool true)], args := [d1, d2, d3] }
  | _ => none }
def leafPutsRow : OpenClaim := { program := "ytmmifkobcmabpaa", sum := "1b8c221f17920079612de0c565b4ea49f3615f666768d885c57b8e87b11bd745", func := "orangery/orangerylaw07.LeafPuts", spec := "leafPuts", inPlace := ["internal/bytealg.abigen_runtime_cmpstring"], apart := false }
def LeafPutsSaid : Prop := leafPutsRow.holds Try.pinned (OpenSpec.ofChange leafPutsSpec)

/-- ITS FALSE NEIGHBOUR: 'it returns false'. Refute it at one input. -/
def leafPutsWrong : ChangeSpec := { name := "leafPuts", fn := fun _ => fun
  | [d1, d2, d3] => { results := [.lit (.bool false)], args := [d1, d2, d3] }
  | _ => none }
def LeafPutsWrongFalsely : Prop := leafPutsRow.holds Try.pinned (OpenSpec.ofChange leafPutsWrong)

/-- 'orangerylaw07.LeafRuns': WHATEVER THE INPUT: true; the input reads as it did. -/
def leafRunsSpec : ChangeSpec := { name := "leafRuns", fn := fun _ => fun
  | [d1, d2, d3] => { results := [.lit (.bool true)], args := [d1, d2, d3] }
  | _ => none }
def leafRunsRow : OpenClaim := { program := "ytmmifkobcmabpaa", sum := "1b8c221f17920079612de0c565b4ea49f3615f666768d885c57b8e87b11bd745", func := "orangery/orangerylaw07.LeafRuns", spec := "leafRuns", inPlace := ["internal/bytealg.abigen_runtime_cmpstring"], apart := false }
def LeafRunsSaid : Prop := leafRunsRow.holds Try.pinned (OpenSpec.ofChange leafRunsSpec)

/-- ITS FALSE NEIGHBOUR: 'it returns false'. Refute it at one input. -/
def leafRunsWrong : ChangeSpec := { name := "leafRuns", fn := fun _ => fun
  | [d1, d2, d3] => { results := [.lit (.bool false)], args := [d1, d2, d3] }
  | _ => none }
def LeafRunsWrongFalsely : Prop := leafRunsRow.holds Try.pinned (OpenSpec.ofChange leafRunsWrong)

/-- 'orangerylaw07.LeafSplits': WHATEVER THE INPUT: true; the input reads as it did. -/
def leafSplitsSpec : ChangeSpec := { name := "leafSplits", fn := fun _ => fun
  | [d1, d2] => { results := [.lit (.bool true)], args := [d1, d2] }
  | _ => none }
def leafSplitsRow : OpenClaim := { program := "ytmmifkobcmabpaa", sum := "1b8c221f17920079612de0c565b4ea49f3615f666768d885c57b8e87b11bd745", func := "orangery/orangerylaw07.LeafSplits", spec := "leafSplits", inPlace := ["internal/bytealg.abigen_runtime_cmpstring"], apart := false }
def LeafSplitsSaid : Prop := leafSplitsRow.holds Try.pinned (OpenSpec.ofChange leafSplitsSpec)

/-- ITS FALSE NEIGHBOUR: 'it returns false'. Refute it at one input. -/
def leafSplitsWrong : ChangeSpec := { name := "leafSplits", fn := fun _ => fun
  | [d1, d2] => { results := [.lit (.bool false)], args := [d1, d2] }
  | _ => none }
def LeafSplitsWrongFalsely : Prop := leafSplitsRow.holds Try.pinned (OpenSpec.ofChange leafSplitsWrong)

/-- 'orangerylaw07.LeafGone': WHATEVER THE INPUT: true; the input reads as it did. -/
def leafGoneSpec : ChangeSpec := { name := "leafGone", fn := fun _ => fun
  | [d] => { results := [.lit (.bool true)], args := [d] }
  | _ => none }
def leafGoneRow : OpenClaim := { program := "ytmmifkobcmabpaa", sum := "1b8c221f17920079612de0c565b4ea49f3615f666768d885c57b8e87b11bd745", func := "orangery/orangerylaw07.LeafGone", spec := "leafGone", inPlace := ["internal/bytealg.abigen_runtime_cmpstring"], apart := false }
def LeafGoneSaid : Prop := leafGoneRow.holds Try.pinned (OpenSpec.ofChange leafGoneSpec)

/-- ITS FALSE NEIGHBOUR: 'it returns false'. Refute it at one input. -/
def leafGoneWrong : ChangeSpec := { name := "leafGone", fn := fun _ => fun
  | [d] => { results := [.lit (.bool false)], args := [d] }
  | _ => none }
def LeafGoneWrongFalsely : Prop := leafGoneRow.holds Try.pinned (OpenSpec.ofChange leafGoneWrong)

/- THE SECOND FORM. 'bulk': how many values and letters a reading holds, each counted each time it is reached (what is shared counts as often as it is met; a slice's spare places count too). A statement '..UptoSaid' is the law's where the arguments, and the package variables that the reading takes, are together of bulk at most 1048576: NARROWER than '..Said'. Prove '..Said' where nothing that the law and all that it calls make is longer than what came in: it says more and counts as full. Else prove '..UptoSaid'. A law counts once. -/
mutual
def uptoBulk {H : Type} : DataW H → Nat
  | .lit (.string bytes) => bytes.length + 1
  | .lit _ => 1
  | .nil => 1
  | .ptr d => uptoBulk d + 1
  | .slice elems spare => uptoBulkAll elems + uptoBulkAll spare + 1
  | .agg parts => uptoBulkAll parts + 1
  | .iface _ d => uptoBulk d + 1
  | .map entries => uptoBulkEntries entries + 1
  | .held _ => 1
def uptoBulkAll {H : Type} : List (DataW H) → Nat
  | [] => 0
  | d :: r => uptoBulk d + uptoBulkAll r
def uptoBulkEntries {H : Type} : List (Lit × DataW H) → Nat
  | [] => 0
  | x :: r => uptoBulkEntry x + uptoBulkEntries r
def uptoBulkEntry {H : Type} : Lit × DataW H → Nat
  | (.string bytes, d) => bytes.length + uptoBulk d + 1
  | (_, d) => uptoBulk d + 1
 end
def uptoSmall : (H : Type) → List (DataW H) → Bool := fun _ ds => decide (uptoBulkAll ds ≤ 1048576)
def OpenSpec.upto (s : _root_.Go.ChangeSpec) : _root_.Go.OpenSpec := { _root_.Go.OpenSpec.ofChange s with cond := some uptoSmall }

/-- 'orangerylaw08.FanRaw', WHERE WHAT IT READS IS OF BULK AT MOST 1048576: true; the input reads as it did. -/
def fanRawUptoRow : OpenClaim := { program := "ytmmifkobcmabpaa", sum := "1b8c221f17920079612de0c565b4ea49f3615f666768d885c57b8e87b11bd745", func := "orangery/orangerylaw08.FanRaw", spec := "fanRaw", inPlace := ["internal/bytealg.abigen_runtime_cmpstring"], apart := false, narrowed := true }
def FanRawUptoSaid : Prop := fanRawUptoRow.holds Try.pinned (OpenSpec.upto fanRawSpec)

/-- 'orangerylaw08.FanKids', WHERE WHAT IT READS IS OF BULK AT MOST 1048576: true; the input reads as it did. -/
def fanKidsUptoRow : OpenClaim := { program := "ytmmifkobcmabpaa", sum := "1b8c221f17920079612de0c565b4ea49f3615f666768d885c57b8e87b11bd745", func := "orangery/orangerylaw08.FanKids", spec := "fanKids", inPlace := ["internal/bytealg.abigen_runtime_cmpstring"], apart := false, narrowed := true }
def FanKidsUptoSaid : Prop := fanKidsUptoRow.holds Try.pinned (OpenSpec.upto fanKidsSpec)

/-- 'orangerylaw08.FanInserts', WHERE WHAT IT READS IS OF BULK AT MOST 1048576: true; the input reads as it did. -/
def fanInsertsUptoRow : OpenClaim := { program := "ytmmifkobcmabpaa", sum := "1b8c221f17920079612de0c565b4ea49f3615f666768d885c57b8e87b11bd745", func := "orangery/orangerylaw08.FanInserts", spec := "fanInserts", inPlace := ["internal/bytealg.abigen_runtime_cmpstring"], apart := false, narrowed := true }
def FanInsertsUptoSaid : Prop := fanInsertsUptoRow.holds Try.pinned (OpenSpec.upto fanInsertsSpec)

/-- 'orangerylaw08.FanAll', WHERE WHAT IT READS IS OF BULK AT MOST 1048576: true; the input reads as it did. -/
def fanAllUptoRow : OpenClaim := { program := "ytmmifkobcmabpaa", sum := "1b8c221f17920079612de0c565b4ea49f3615f666768d885c57b8e87b11bd745", func := "orangery/orangerylaw08.FanAll", spec := "fanAll", inPlace := ["internal/bytealg.abigen_runtime_cmpstring"], apart := false, narrowed := true }
def FanAllUptoSaid : Prop := fanAllUptoRow.holds Try.pinned (OpenSpec.upto fanAllSpec)

/-- 'orangerylaw08.FanHalves', WHERE WHAT IT READS IS OF BULK AT MOST 1048576: true; the input reads as it did. -/
def fanHalvesUptoRow : OpenClaim := { program := "ytmmifkobcmabpaa", sum := "1b8c221f17920079612de0c565b4ea49f3615f666768d885c57b8e87b11bd745", func := "orangery/orangerylaw08.FanHalves", spec := "fanHalves", inPlace := ["internal/bytealg.abigen_runtime_cmpstring"], apart := false, narrowed := true }
def FanHalvesUptoSaid : Prop := fanHalvesUptoRow.holds Try.pinned (OpenSpec.upto fanHalvesSpec)

/-- 'orangerylaw07.LeafAll', WHERE WHAT IT READS IS OF BULK AT MOST 1048576: true; the input reads as it did. -/
def leafAllUptoRow : OpenClaim := { program := "ytmmifkobcmabpaa", sum := "1b8c221f17920079612de0c565b4ea49f3615f666768d885c57b8e87b11bd745", func := "orangery/orangerylaw07.LeafAll", spec := "leafAll", inPlace := ["internal/bytealg.abigen_runtime_cmpstring"], apart := false, narrowed := true }
def LeafAllUptoSaid : Prop := leafAllUptoRow.holds Try.pinned (OpenSpec.upto leafAllSpec)

/-- 'orangerylaw07.LeafRaw', WHERE WHAT IT READS IS OF BULK AT MOST 1048576: true; the input reads as it did. -/
def leafRawUptoRow : OpenClaim := { program := "ytmmifkobcmabpaa", sum := "1b8c221f17920079612de0c565b4ea49f3615f666768d885c57b8e87b11bd745", func := "orangery/orangerylaw07.LeafRaw", spec := "leafRaw", inPlace := ["internal/bytealg.abigen_runtime_cmpstring"], apart := false, narrowed := true }
def LeafRawUptoSaid : Prop := leafRawUptoRow.holds Try.pinned (OpenSpec.upto leafRawSpec)

/-- 'orangerylaw07.LeafPuts', WHERE WHAT IT READS IS OF BULK AT MOST 1048576: true; the input reads as it did. -/
def leafPutsUptoRow : OpenClaim := { program := "ytmmifkobcmabpaa", sum := "1b8c221f17920079612de0c565b4ea49f3615f666768d885c57b8e87b11bd745", func := "orangery/orangerylaw07.LeafPuts", spec := "leafPuts", inPlace := ["internal/bytealg.abigen_runtime_cmpstring"], apart := false, narrowed := true }
def LeafPutsUptoSaid : Prop := leafPutsUptoRow.holds Try.pinned (OpenSpec.upto leafPutsSpec)

/-- 'orangerylaw07.LeafRuns', WHERE WHAT IT READS IS OF BULK AT MOST 1048576: true; the input reads as it did. -/
def leafRunsUptoRow : OpenClaim := { program := "ytmmifkobcmabpaa", sum := "1b8c221f17920079612de0c565b4ea49f3615f666768d885c57b8e87b11bd745", func := "orangery/orangerylaw07.LeafRuns", spec := "leafRuns", inPlace := ["internal/bytealg.abigen_runtime_cmpstring"], apart := false, narrowed := true }
def LeafRunsUptoSaid : Prop := leafRunsUptoRow.holds Try.pinned (OpenSpec.upto leafRunsSpec)

/-- 'orangerylaw07.LeafSplits', WHERE WHAT IT READS IS OF BULK AT MOST 1048576: true; the input reads as it did. -/
def leafSplitsUptoRow : OpenClaim := { program := "ytmmifkobcmabpaa", sum := "1b8c221f17920079612de0c565b4ea49f3615f666768d885c57b8e87b11bd745", func := "orangery/orangerylaw07.LeafSplits", spec := "leafSplits", inPlace := ["internal/bytealg.abigen_runtime_cmpstring"], apart := false, narrowed := true }
def LeafSplitsUptoSaid : Prop := leafSplitsUptoRow.holds Try.pinned (OpenSpec.upto leafSplitsSpec)

/-- 'orangerylaw07.LeafGone', WHERE WHAT IT READS IS OF BULK AT MOST 1048576: true; the input reads as it did. -/
def leafGoneUptoRow : OpenClaim := { program := "ytmmifkobcmabpaa", sum := "1b8c221f17920079612de0c565b4ea49f3615f666768d885c57b8e87b11bd745", func := "orangery/orangerylaw07.LeafGone", spec := "leafGone", inPlace := ["internal/bytealg.abigen_runtime_cmpstring"], apart := false, narrowed := true }
def LeafGoneUptoSaid : Prop := leafGoneUptoRow.holds Try.pinned (OpenSpec.upto leafGoneSpec)

end Rows
end Go.Proofs.Ytmmifkobcmabpaa
