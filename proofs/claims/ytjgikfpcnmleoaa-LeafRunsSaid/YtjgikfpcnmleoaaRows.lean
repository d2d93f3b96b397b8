/-
  No cell of these rows narrows 'for every input' (looked for: loops, veiled, ifaces, maps, wideKeys, modest, calm, conditions, laid).
  DERIVED. THE GIVEN ROWS OF THIS SEAT. 6 by the template 'for every input the law returns true; each argument reads behind the call as it read before'; 0 by the template 'total and deterministic' (their statements: YtjgikfpcnmleoaaTotals.lean).
  GIVEN WITH THE SEED: the statements are not yours to turn. If you find one false, say at which input.
  Laid BY PROGRAM, IN A SANDBOX (cutbox-rows.mjs): the forced cells as the released guide's own fill.sh prints them over the translation 9409c27479fc718a… (all of the seat's roots in one cut). By AI agents, Wed Nov 11 2026. No macro, syntax, notation, axiom, sorry.
-/
import Derived.Test.YtjgikfpcnmleoaaChecked
import GoSem.Claim
import GoSem.ClaimJoined
import GoSem.ClaimMapViews
import Derived.JoinedTies
import Derived.KernelRfl
namespace Go.Proofs.Ytjgikfpcnmleoaa
/- THE CELL 'sum', in the pinned program and in every row, IS THE sha256 OF THE DUMP (.gsa) THAT YtjgikfpcnmleoaaProg.lean LOADS. Nothing in Lean hashes anything: it is a label: what it is worth is what the hold of that sum in a sandbox is worth. -/
noncomputable def Try.pinned : Pinned := { name := "ytjgikfpcnmleoaa", sum := "9409c27479fc718abe1241e17cb3a51bd3587ce5e881e4c5883e4cb5879fa590", checked := Try.checked }
namespace Rows
def none {H : Type} : Left H := { results := [], args := [] }

/-- 'orangerylaw07.LeafAll': WHATEVER THE INPUT: true; the input reads as it did. -/
def leafAllSpec : ChangeSpec := { name := "leafAll", fn := fun _ => fun
  | [d1, d2, d3] => { results := [.lit (.bool true)], args := [d1, d2, d3] }
  | _ => none }
def leafAllRow : OpenClaim := { program := "ytjgikfpcnmleoaa", sum := "9409c27479fc718abe1241e17cb3a51bd3587ce5e881e4c5883e4cb5879fa590", func := "orangery/orangerylaw07.LeafAll", spec := "leafAll", inPlace := ["internal/bytealg.abigen_runtime_cmpstring"], apart := false }
def LeafAllSaid : Prop := leafAllRow.holds Try.pinned (OpenSpec.ofChange leafAllSpec)

/-- ITS FALSE NEIGHBOUR: 'it returns false'. Refute it at one input. -/
def leafAllWrong : ChangeSpec := { name := "leafAll", fn := fun _ => fun
  | [d1, d2, d3] => { results := [.lit (.bool false)], args := [d1, d2, d3] }
  | _ => none }
def LeafAllWrongFalsely : Prop := leafAllRow.holds Try.pinned (OpenSpec.ofChange leafAllWrong)

/-- 'orangerylaw07.LeafRaw': WHATEVER THE INPUT: true; the input reads as it did. -/
def leafRawSpec : ChangeSpec := { name := "leafRaw", fn := fun _ => fun
  | [d] => { results := [.lit (.bool true)], args := [d] }
  | _ => none }
def leafRawRow : OpenClaim := { program := "ytjgikfpcnmleoaa", sum := "9409c27479fc718abe1241e17cb3a51bd3587ce5e881e4c5883e4cb5879fa590", func := "orangery/orangerylaw07.LeafRaw", spec := "leafRaw", inPlace := ["internal/bytealg.abigen_runtime_cmpstring"], apart := false }
def LeafRawSaid : Prop := leafRawRow.holds Try.pinned (OpenSpec.ofChange leafRawSpec)

/-- ITS FALSE NEIGHBOUR: 'it returns false'. Refute it at one input. -/
def leafRawWrong : ChangeSpec := { name := "leafRaw", fn := fun _ => fun
  | [d] => { results := [.lit (.bool false)], args := [d] }
  | _ => none }
def LeafRawWrongFalsely : Prop := leafRawRow.holds Try.pinned (OpenSpec.ofChange leafRawWrong)

/-- 'orangerylaw07.LeafPuts': WHATEVER THE INPUT: true; the input reads as it did. -/
def leafPutsSpec : ChangeSpec := { name := "leafPuts", fn := fun _ => fun
  | [d1, d2, d3] => { results := [.lit (.bool true)], args := [d1, d2, d3] }
  | _ => none }
def leafPutsRow : OpenClaim := { program := "ytjgikfpcnmleoaa", sum := "9409c27479fc718abe1241e17cb3a51bd3587ce5e881e4c5883e4cb5879fa590", func := "orangery/orangerylaw07.LeafPuts", spec := "leafPuts", inPlace := ["internal/bytealg.abigen_runtime_cmpstring"], apart := false }
def LeafPutsSaid : Prop := leafPutsRow.holds Try.pinned (OpenSpec.ofChange leafPutsSpec)

/-- ITS FALSE NEIGHBOUR: 'it returns false'. Refute it at one input. -/
def leafPutsWrong : ChangeSpec := { name := "leafPuts", fn := fun _ => fun
  | [d1, d2, d3] => { results := [.lit (.bool false)], args := [d1, d2, d3] }
  | _ => none }
def LeafPutsWrongFalsely : Prop := leafPutsRow.holds Try.pinned (OpenSpec.ofChange leafPutsWrong)

/-- 'orangerylaw07.LeafRuns': WHATEVER THE INPUT: true; the input reads as it did. -/
def leafRunsSpec : ChangeSpec := { name := "leafRuns", fn := fun _ => fun
  | [d1, d2, d3] => { results := [.lit (.bool true)], args := [d1, d2, d3] }
  | _ => none }
def leafRunsRow : OpenClaim := { program := "ytjgikfpcnmleoaa", sum := "9409c27479fc718abe1241e17cb3a51bd3587ce5e881e4c5883e4cb5879fa590", func := "orangery/orangerylaw07.LeafRuns", spec := "leafRuns", inPlace := ["internal/bytealg.abigen_runtime_cmpstring"], apart := false }
def LeafRunsSaid : Prop := leafRunsRow.holds Try.pinned (OpenSpec.ofChange leafRunsSpec)

/-- ITS FALSE NEIGHBOUR: 'it returns false'. Refute it at one input. -/
def leafRunsWrong : ChangeSpec := { name := "leafRuns", fn := fun _ => fun
  | [d1, d2, d3] => { results := [.lit (.bool false)], args := [d1, d2, d3] }
  | _ => none }
def LeafRunsWrongFalsely : Prop := leafRunsRow.holds Try.pinned (OpenSpec.ofChange leafRunsWrong)

/-- 'orangerylaw07.LeafSplits': WHATEVER THE INPUT: true; the input reads as it did. -/
def leafSplitsSpec : ChangeSpec := { name := "leafSplits", fn := fun _ => fun
  | [d1, d2] => { results := [.lit (.bool true)], args := [d1, d2] }
  | _ => none }
def leafSplitsRow : OpenClaim := { program := "ytjgikfpcnmleoaa", sum := "9409c27479fc718abe1241e17cb3a51bd3587ce5e881e4c5883e4cb5879fa590", func := "orangery/orangerylaw07.LeafSplits", spec := "leafSplits", inPlace := ["internal/bytealg.abigen_runtime_cmpstring"], apart := false }
def LeafSplitsSaid : Prop := leafSplitsRow.holds Try.pinned (OpenSpec.ofChange leafSplitsSpec)

/-- ITS FALSE NEIGHBOUR: 'it returns false'. Refute it at one input. -/
def leafSplitsWrong : ChangeSpec := { name := "leafSplits", fn := fun _ => fun
  | [d1, d2] => { results := [.lit (.bool false)], args := [d1, d2] }
  | _ => none }
def LeafSplitsWrongFalsely : Prop := leafSplitsRow.holds Try.pinned (OpenSpec.ofChange leafSplitsWrong)

/-- 'orangerylaw07.LeafGone': WHATEVER THE INPUT: true; the input reads as it did. -/
def leafGoneSpec : ChangeSpec := { name := "leafGone", fn := fun _ => fun
  | [d] => { results := [.lit (.bool true)], args := [d] }
  | _ => none }
def leafGoneRow : OpenClaim := { program := "ytjgikfpcnmleoaa", sum := "9409c27479fc718abe1241e17cb3a51bd3587ce5e881e4c5883e4cb5879fa590", func := "orangery/orangerylaw07.LeafGone", spec := "leafGone", inPlace := ["internal/bytealg.abigen_runtime_cmpstring"], apart := false }
def LeafGoneSaid : Prop := leafGoneRow.holds Try.pinned (OpenSpec.ofChange leafGoneSpec)

/-- ITS FALSE NEIGHBOUR: 'it returns false'. Refute it at one input. -/
def leafGoneWrong : ChangeSpec := { name := "leafGone", fn := fun _ => fun
  | [d] => { results := [.lit (.bool false)], args := [d] }
  | _ => none }
def LeafGoneWrongFalsely : Prop := leafGoneRow.holds Try.pinned (OpenSpec.ofChange leafGoneWrong)

/- THE SECOND FORM. 'bulk': how many values and letters a reading holds, each counted each time it is reached (what is shared counts as often as it is met; a slice's spare places count too). A statement '..UptoSaid' is the law's where the arguments, and the package variables that the reading takes, are together of bulk at most 1048576: NARROWER than '..Said'. Prove '..Said' where nothing that the law and all that it calls make is longer than what came in: it says more and counts as full. Else prove '..UptoSaid'. A law counts once. -/
mutual
def uptoBulk {H : Type} : DataW H → Nat
  | .lit (.string bytes) => bytes.length + 1
  | .lit _ => 1
  | .nil => 1
  | .ptr d => uptoBulk d + 1
  | .slice elems spare => uptoBulkAll elems + uptoBulkAll spare + 1
  | .agg parts => uptoBulkAll parts + 1
  | .iface _ d => uptoBulk d + 1
  | .map entries => uptoBulkEntries entries + 1
  | .held _ => 1
def uptoBulkAll {H : Type} : List (DataW H) → Nat
  | [] => 0
  | d :: r => uptoBulk d + uptoBulkAll r
def uptoBulkEntries {H : Type} : List (Lit × DataW H) → Nat
  | [] => 0
  | x :: r => uptoBulkEntry x + uptoBulkEntries r
def uptoBulkEntry {H : Type} : Lit × DataW H → Nat
  | (.string bytes, d) => bytes.length + uptoBulk d + 1
  | (_, d) => uptoBulk d + 1
 end
def uptoSmall : (H : Type) → List (DataW H) → Bool := fun _ ds => decide (uptoBulkAll ds ≤ 1048576)
def OpenSpec.upto (s : _root_.Go.ChangeSpec) : _root_.Go.OpenSpec := { _root_.Go.OpenSpec.ofChange s with cond := some uptoSmall }

/-- 'orangerylaw07.LeafAll', WHERE WHAT IT READS IS OF BULK AT MOST 1048576: true; the input reads as it did. -/
def leafAllUptoRow : OpenClaim := { program := "ytjgikfpcnmleoaa", sum := "9409c27479fc718abe1241e17cb3a51bd3587ce5e881e4c5883e4cb5879fa590", func := "orangery/orangerylaw07.LeafAll", spec := "leafAll", inPlace := ["internal/bytealg.abigen_runtime_cmpstring"], apart := false, narrowed := true }
def LeafAllUptoSaid : Prop := leafAllUptoRow.holds Try.pinned (OpenSpec.upto leafAllSpec)

/-- 'orangerylaw07.LeafRaw', WHERE WHAT IT READS IS OF BULK AT MOST 1048576: true; the input reads as it did. -/
def leafRawUptoRow : OpenClaim := { program := "ytjgikfpcnmleoaa", sum := "9409c27479fc718abe1241e17cb3a51bd3587ce5e881e4c5883e4cb5879fa590", func := "orangery/orangerylaw07.LeafRaw", spec := "leafRaw", inPlace := ["internal/bytealg.abigen_runtime_cmpstring"], apart := false, narrowed := true }
def LeafRawUptoSaid : Prop := leafRawUptoRow.holds Try.pinned (OpenSpec.upto leafRawSpec)

/-- 'orangerylaw07.LeafPuts', WHERE WHAT IT READS IS OF BULK AT MOST 1048576: true; the input reads as it did. -/
def leafPutsUptoRow : OpenClaim := { program := "ytjgikfpcnmleoaa", sum := "9409c27479fc718abe1241e17cb3a51bd3587ce5e881e4c5883e4cb5879fa590", func := "orangery/orangerylaw07.LeafPuts", spec := "leafPuts", inPlace := ["internal/bytealg.abigen_runtime_cmpstring"], apart := false, narrowed := true }
def LeafPutsUptoSaid : Prop := leafPutsUptoRow.holds Try.pinned (OpenSpec.upto leafPutsSpec)

/-- 'orangerylaw07.LeafRuns', WHERE WHAT IT READS IS OF BULK AT MOST 1048576: true; the input reads as it did. -/
def leafRunsUptoRow : OpenClaim := { program := "ytjgikfpcnmleoaa", sum := "9409c27479fc718abe1241e17cb3a51bd3587ce5e881e4c5883e4cb5879fa590", func := "orangery/orangerylaw07.LeafRuns", spec := "leafRuns", inPlace := ["internal/bytealg.abigen_runtime_cmpstring"], apart := false, narrowed := true }
def LeafRunsUptoSaid : Prop := leafRunsUptoRow.holds Try.pinned (OpenSpec.upto leafRunsSpec)

/-- 'orangerylaw07.LeafSplits', WHERE WHAT IT READS IS OF BULK AT MOST 1048576: true; the input reads as it did. -/
def leafSplitsUptoRow : OpenClaim := { program := "ytjgikfpcnmleoaa", sum := "9409c27479fc718abe1241e17cb3a51bd3587ce5e881e4c5883e4cb5879fa590", func := "orangery/orangerylaw07.LeafSplits", spec := "leafSplits", inPlace := ["internal/bytealg.abigen_runtime_cmpstring"], apart := false, narrowed := true }
def LeafSplitsUptoSaid : Prop := leafSplitsUptoRow.holds Try.pinned (OpenSpec.upto leafSplitsSpec)

/-- 'orangerylaw07.LeafGone', WHERE WHAT IT READS IS OF BULK AT MOST 1048576: true; the input reads as it did. -/
def leafGoneUptoRow : OpenClaim := { program := "ytjgikfpcnmleoaa", sum := "9409c27479fc718abe1241e17cb3a51bd3587ce5e881e4c5883e4cb5879fa590", func := "orangery/orangerylaw07.LeafGone", spec := "leafGone", inPlace := ["internal/bytealg.abigen_runtime_cmpstring"], apart := false, narrowed := true }
def LeafGoneUptoSaid : Prop := leafGoneUptoRow.holds Try.pinned (OpenSpec.upto leafGoneSpec)

end Rows
end Go.Proofs.Ytjgikfpcnmleoaa
