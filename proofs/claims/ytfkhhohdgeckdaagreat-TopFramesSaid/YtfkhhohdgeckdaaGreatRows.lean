/-
  No cell of these rows narrows 'for every input' (looked for: loops, veiled, ifaces, maps, wideKeys, modest, calm, conditions, laid).
  DERIVED. THE GIVEN ROWS OF THIS SEAT. 7 by the template 'for every input the law returns true; each argument reads behind the call as it read before'; 0 by the template 'total and deterministic' (their statements: YtfkhhohdgeckdaaGreatTotals.lean).
  GIVEN WITH THE SEED: the statements are not yours to turn. If you find one false, say at which input.
  Laid BY PROGRAM, IN A SANDBOX (cutbox-rows.mjs): the forced cells as the released guide's own fill.sh prints them over the translation acbf7487991f9f0b… (all of the seat's roots in one cut). By AI agents, Wed Nov 11 2026. No macro, syntax, notation, axiom, sorry.
-/
import Derived.Test.YtfkhhohdgeckdaaGreatChecked
import GoSem.Claim
import GoSem.ClaimJoined
import GoSem.ClaimMapViews
import Derived.JoinedTies
import Derived.KernelRfl
namespace Go.Proofs.YtfkhhohdgeckdaaGreat
/- THE CELL 'sum', in the pinned program and in every row, IS THE sha256 OF THE DUMP (.gsa) THAT YtfkhhohdgeckdaaGreatProg.lean LOADS. Nothing in Lean hashes anything: it is a label: what it is worth is what the hold of that sum in a sandbox is worth. -/
noncomputable def Tryz.pinned : Pinned := { name := "ytfkhhohdgeckdaagreat", sum := "acbf7487991f9f0bdf6bb1ddc06040502bf3572a7ce1ec0397ffa2087e01a5cb", checked := Tryz.checked }
namespace Rows
def none {H : Type} : Left H := { results := [], args := [] }

/-- 'orangerytop.TopLine': WHATEVER THE INPUT: true; the input reads as it did. -/
def topLineSpec : ChangeSpec := { name := "topLine", fn := fun _ => fun
  | [d1, d2, d3] => { results := [.lit (.bool true)], args := [d1, d2, d3] }
  | _ => none }
def topLineRow : OpenClaim := { program := "ytfkhhohdgeckdaagreat", sum := "acbf7487991f9f0bdf6bb1ddc06040502bf3572a7ce1ec0397ffa2087e01a5cb", func := "orangery/orangerytop.TopLine", spec := "topLine", inPlace := ["slices.overlaps[int]", "internal/bytealg.abigen_runtime_cmpstring"], unfollowed := true, recurses := true, apart := false }
def TopLineSaid : Prop := topLineRow.holds Tryz.pinned (OpenSpec.ofChange topLineSpec)

/-- ITS FALSE NEIGHBOUR: 'it returns false'. Refute it at one input. -/
def topLineWrong : ChangeSpec := { name := "topLine", fn := fun _ => fun
  | [d1, d2, d3] => { results := [.lit (.bool false)], args := [d1, d2, d3] }
  | _ => none }
def TopLineWrongFalsely : Prop := topLineRow.holds Tryz.pinned (OpenSpec.ofChange topLineWrong)

/-- 'orangerytop.TopView': WHATEVER THE INPUT: true; the input reads as it did. -/
def topViewSpec : ChangeSpec := { name := "topView", fn := fun _ => fun
  | [d1, d2, d3, d4] => { results := [.lit (.bool true)], args := [d1, d2, d3, d4] }
  | _ => none }
def topViewRow : OpenClaim := { program := "ytfkhhohdgeckdaagreat", sum := "acbf7487991f9f0bdf6bb1ddc06040502bf3572a7ce1ec0397ffa2087e01a5cb", func := "orangery/orangerytop.TopView", spec := "topView", inPlace := ["internal/bytealg.abigen_runtime_cmpstring", "slices.overlaps[int]"], unfollowed := true, recurses := true, apart := false }
def TopViewSaid : Prop := topViewRow.holds Tryz.pinned (OpenSpec.ofChange topViewSpec)

/-- ITS FALSE NEIGHBOUR: 'it returns false'. Refute it at one input. -/
def topViewWrong : ChangeSpec := { name := "topView", fn := fun _ => fun
  | [d1, d2, d3, d4] => { results := [.lit (.bool false)], args := [d1, d2, d3, d4] }
  | _ => none }
def TopViewWrongFalsely : Prop := topViewRow.holds Tryz.pinned (OpenSpec.ofChange topViewWrong)

/-- 'orangerytop.TopGets': WHATEVER THE INPUT: true; the input reads as it did. -/
def topGetsSpec : ChangeSpec := { name := "topGets", fn := fun _ => fun
  | [d1, d2, d3] => { results := [.lit (.bool true)], args := [d1, d2, d3] }
  | _ => none }
def topGetsRow : OpenClaim := { program := "ytfkhhohdgeckdaagreat", sum := "acbf7487991f9f0bdf6bb1ddc06040502bf3572a7ce1ec0397ffa2087e01a5cb", func := "orangery/orangerytop.TopGets", spec := "topGets", inPlace := ["slices.overlaps[int]", "internal/bytealg.abigen_runtime_cmpstring"], unfollowed := true, recurses := true, apart := false }
def TopGetsSaid : Prop := topGetsRow.holds Tryz.pinned (OpenSpec.ofChange topGetsSpec)

/-- ITS FALSE NEIGHBOUR: 'it returns false'. Refute it at one input. -/
def topGetsWrong : ChangeSpec := { name := "topGets", fn := fun _ => fun
  | [d1, d2, d3] => { results := [.lit (.bool false)], args := [d1, d2, d3] }
  | _ => none }
def TopGetsWrongFalsely : Prop := topGetsRow.holds Tryz.pinned (OpenSpec.ofChange topGetsWrong)

/-- 'orangerytop.TopLarge': WHATEVER THE INPUT: true; the input reads as it did. -/
def topLargeSpec : ChangeSpec := { name := "topLarge", fn := fun _ => fun
  | [d1, d2] => { results := [.lit (.bool true)], args := [d1, d2] }
  | _ => none }
def topLargeRow : OpenClaim := { program := "ytfkhhohdgeckdaagreat", sum := "acbf7487991f9f0bdf6bb1ddc06040502bf3572a7ce1ec0397ffa2087e01a5cb", func := "orangery/orangerytop.TopLarge", spec := "topLarge", inPlace := ["slices.overlaps[int]", "internal/bytealg.abigen_runtime_cmpstring"], unfollowed := true, recurses := true, apart := false }
def TopLargeSaid : Prop := topLargeRow.holds Tryz.pinned (OpenSpec.ofChange topLargeSpec)

/-- ITS FALSE NEIGHBOUR: 'it returns false'. Refute it at one input. -/
def topLargeWrong : ChangeSpec := { name := "topLarge", fn := fun _ => fun
  | [d1, d2] => { results := [.lit (.bool false)], args := [d1, d2] }
  | _ => none }
def TopLargeWrongFalsely : Prop := topLargeRow.holds Tryz.pinned (OpenSpec.ofChange topLargeWrong)

/-- 'orangerytop.TopGoes': WHATEVER THE INPUT: true; the input reads as it did. -/
def topGoesSpec : ChangeSpec := { name := "topGoes", fn := fun _ => fun
  | [d1, d2, d3, d4] => { results := [.lit (.bool true)], args := [d1, d2, d3, d4] }
  | _ => none }
def topGoesRow : OpenClaim := { program := "ytfkhhohdgeckdaagreat", sum := "acbf7487991f9f0bdf6bb1ddc06040502bf3572a7ce1ec0397ffa2087e01a5cb", func := "orangery/orangerytop.TopGoes", spec := "topGoes", inPlace := ["slices.overlaps[int]", "internal/bytealg.abigen_runtime_cmpstring"], unfollowed := true, recurses := true, apart := false }
def TopGoesSaid : Prop := topGoesRow.holds Tryz.pinned (OpenSpec.ofChange topGoesSpec)

/-- ITS FALSE NEIGHBOUR: 'it returns false'. Refute it at one input. -/
def topGoesWrong : ChangeSpec := { name := "topGoes", fn := fun _ => fun
  | [d1, d2, d3, d4] => { results := [.lit (.bool false)], args := [d1, d2, d3, d4] }
  | _ => none }
def TopGoesWrongFalsely : Prop := topGoesRow.holds Tryz.pinned (OpenSpec.ofChange topGoesWrong)

/-- 'orangerytop.TopFrames': WHATEVER THE INPUT: true; the input reads as it did. -/
def topFramesSpec : ChangeSpec := { name := "topFrames", fn := fun _ => fun
  | [d1, d2, d3, d4] => { results := [.lit (.bool true)], args := [d1, d2, d3, d4] }
  | _ => none }
def topFramesRow : OpenClaim := { program := "ytfkhhohdgeckdaagreat", sum := "acbf7487991f9f0bdf6bb1ddc06040502bf3572a7ce1ec0397ffa2087e01a5cb", func := "orangery/orangerytop.TopFrames", spec := "topFrames", inPlace := ["slices.overlaps[int]", "internal/bytealg.abigen_runtime_cmpstring"], unfollowed := true, recurses := true, apart := false }
def TopFramesSaid : Prop := topFramesRow.holds Tryz.pinned (OpenSpec.ofChange topFramesSpec)

/-- ITS FALSE NEIGHBOUR: 'it returns false'. Refute it at one input. -/
def topFramesWrong : ChangeSpec := { name := "topFrames", fn := fun _ => fun
  | [d1, d2, d3, d4] => { results := [.lit (.bool false)], args := [d1, d2, d3, d4] }
  | _ => none }
def TopFramesWrongFalsely : Prop := topFramesRow.holds Tryz.pinned (OpenSpec.ofChange topFramesWrong)

/-- 'orangerytop.TopSame': WHATEVER THE INPUT: true; the input reads as it did. -/
def topSameSpec : ChangeSpec := { name := "topSame", fn := fun _ => fun
  | [d1, d2, d3, d4, d5] => { results := [.lit (.bool true)], args := [d1, d2, d3, d4, d5] }
  | _ => none }
def topSameRow : OpenClaim := { program := "ytfkhhohdgeckdaagreat", sum := "acbf7487991f9f0bdf6bb1ddc06040502bf3572a7ce1ec0397ffa2087e01a5cb", func := "orangery/orangerytop.TopSame", spec := "topSame", inPlace := ["slices.overlaps[int]", "internal/bytealg.abigen_runtime_cmpstring"], unfollowed := true, recurses := true, apart := false }
def TopSameSaid : Prop := topSameRow.holds Tryz.pinned (OpenSpec.ofChange topSameSpec)

/-- ITS FALSE NEIGHBOUR: 'it returns false'. Refute it at one input. -/
def topSameWrong : ChangeSpec := { name := "topSame", fn := fun _ => fun
  | [d1, d2, d3, d4, d5] => { results := [.lit (.bool false)], args := [d1, d2, d3, d4, d5] }
  | _ => none }
def TopSameWrongFalsely : Prop := topSameRow.holds Tryz.pinned (OpenSpec.ofChange topSameWrong)

/- THE SECOND FORM. 'bulk': how many values and letters a reading holds, each counted each time it is reached (what is shared counts as often as it is met; a slice's spare places count too). A statement '..UptoSaid' is the law's where the arguments, and the package variables that the reading takes, are together of bulk at most 1048576: NARROWER than '..Said'. Prove '..Said' where nothing that the law and all that it calls make is longer than what came in: it says more and counts as full. Else prove '..UptoSaid'. A law counts once. -/
mutual
def uptoBulk {H : Type} : DataW H → Nat
  | .lit (.string bytes) => bytes.length + 1
  | .lit _ => 1
  | .nil => 1
  | .ptr d => uptoBulk d + 1
  | .slice elems spare => uptoBulkAll elems + uptoBulkAll spare + 1
  | .agg parts => uptoBulkAll parts + 1
  | .iface _ d => uptoBulk d + 1
  | .map entries => uptoBulkEntries entries + 1
  | .held _ => 1
def uptoBulkAll {H : Type} : List (DataW H) → Nat
  | [] => 0
  | d :: r => uptoBulk d + uptoBulkAll r
def uptoBulkEntries {H : Type} : List (Lit × DataW H) → Nat
  | [] => 0
  | x :: r => uptoBulkEntry x + uptoBulkEntries r
def uptoBulkEntry {H : Type} : Lit × DataW H → Nat
  | (.string bytes, d) => bytes.length + uptoBulk d + 1
  | (_, d) => uptoBulk d + 1
 end
def uptoSmall : (H : Type) → List (DataW H) → Bool := fun _ ds => decide (uptoBulkAll ds ≤ 1048576)
def OpenSpec.upto (s : _root_.Go.ChangeSpec) : _root_.Go.OpenSpec := { _root_.Go.OpenSpec.ofChange s with cond := some uptoSmall }

/-- 'orangerytop.TopLine', WHERE WHAT IT READS IS OF BULK AT MOST 1048576: true; the input reads as it did. -/
def topLineUptoRow : OpenClaim := { program := "ytfkhhohdgeckdaagreat", sum := "acbf7487991f9f0bdf6bb1ddc06040502bf3572a7ce1ec0397ffa2087e01a5cb", func := "orangery/orangerytop.TopLine", spec := "topLine", inPlace := ["slices.overlaps[int]", "internal/bytealg.abigen_runtime_cmpstring"], unfollowed := true, recurses := true, apart := false, narrowed := true }
def TopLineUptoSaid : Prop := topLineUptoRow.holds Tryz.pinned (OpenSpec.upto topLineSpec)

/-- 'orangerytop.TopView', WHERE WHAT IT READS IS OF BULK AT MOST 1048576: true; the input reads as it did. -/
def topViewUptoRow : OpenClaim := { program := "ytfkhhohdgeckdaagreat", sum := "acbf7487991f9f0bdf6bb1ddc06040502bf3572a7ce1ec0397ffa2087e01a5cb", func := "orangery/orangerytop.TopView", spec := "topView", inPlace := ["internal/bytealg.abigen_runtime_cmpstring", "slices.overlaps[int]"], unfollowed := true, recurses := true, apart := false, narrowed := true }
def TopViewUptoSaid : Prop := topViewUptoRow.holds Tryz.pinned (OpenSpec.upto topViewSpec)

/-- 'orangerytop.TopGets', WHERE WHAT IT READS IS OF BULK AT MOST 1048576: true; the input reads as it did. -/
def topGetsUptoRow : OpenClaim := { program := "ytfkhhohdgeckdaagreat", sum := "acbf7487991f9f0bdf6bb1ddc06040502bf3572a7ce1ec0397ffa2087e01a5cb", func := "orangery/orangerytop.TopGets", spec := "topGets", inPlace := ["slices.overlaps[int]", "internal/bytealg.abigen_runtime_cmpstring"], unfollowed := true, recurses := true, apart := false, narrowed := true }
def TopGetsUptoSaid : Prop := topGetsUptoRow.holds Tryz.pinned (OpenSpec.upto topGetsSpec)

/-- 'orangerytop.TopLarge', WHERE WHAT IT READS IS OF BULK AT MOST 1048576: true; the input reads as it did. -/
def topLargeUptoRow : OpenClaim := { program := "ytfkhhohdgeckdaagreat", sum := "acbf7487991f9f0bdf6bb1ddc06040502bf3572a7ce1ec0397ffa2087e01a5cb", func := "orangery/orangerytop.TopLarge", spec := "topLarge", inPlace := ["slices.overlaps[int]", "internal/bytealg.abigen_runtime_cmpstring"], unfollowed := true, recurses := true, apart := false, narrowed := true }
def TopLargeUptoSaid : Prop := topLargeUptoRow.holds Tryz.pinned (OpenSpec.upto topLargeSpec)

/-- 'orangerytop.TopGoes', WHERE WHAT IT READS IS OF BULK AT MOST 1048576: true; the input reads as it did. -/
def topGoesUptoRow : OpenClaim := { program := "ytfkhhohdgeckdaagreat", sum := "acbf7487991f9f0bdf6bb1ddc06040502bf3572a7ce1ec0397ffa2087e01a5cb", func := "orangery/orangerytop.TopGoes", spec := "topGoes", inPlace := ["slices.overlaps[int]", "internal/bytealg.abigen_runtime_cmpstring"], unfollowed := true, recurses := true, apart := false, narrowed := true }
def TopGoesUptoSaid : Prop := topGoesUptoRow.holds Tryz.pinned (OpenSpec.upto topGoesSpec)

/-- 'orangerytop.TopFrames', WHERE WHAT IT READS IS OF BULK AT MOST 1048576: true; the input reads as it did. -/
def topFramesUptoRow : OpenClaim := { program := "ytfkhhohdgeckdaagreat", sum := "acbf7487991f9f0bdf6bb1ddc06040502bf3572a7ce1ec0397ffa2087e01a5cb", func := "orangery/orangerytop.TopFrames", spec := "topFrames", inPlace := ["slices.overlaps[int]", "internal/bytealg.abigen_runtime_cmpstring"], unfollowed := true, recurses := true, apart := false, narrowed := true }
def TopFramesUptoSaid : Prop := topFramesUptoRow.holds Tryz.pinned (OpenSpec.upto topFramesSpec)

/-- 'orangerytop.TopSame', WHERE WHAT IT READS IS OF BULK AT MOST 1048576: true; the input reads as it did. -/
def topSameUptoRow : OpenClaim := { program := "ytfkhhohdgeckdaagreat", sum := "acbf7487991f9f0bdf6bb1ddc06040502bf3572a7ce1ec0397ffa2087e01a5cb", func := "orangery/orangerytop.TopSame", spec := "topSame", inPlace := ["slices.overlaps[int]", "internal/bytealg.abigen_runtime_cmpstring"], unfollowed := true, recurses := true, apart := false, narrowed := true }
def TopSameUptoSaid : Prop := topSameUptoRow.holds Tryz.pinned (OpenSpec.upto topSameSpec)

end Rows
end Go.Proofs.YtfkhhohdgeckdaaGreat
