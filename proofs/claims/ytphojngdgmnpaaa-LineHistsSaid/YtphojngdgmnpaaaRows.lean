/-
  No cell of these rows narrows 'for every input' (looked for: loops, veiled, ifaces, maps, wideKeys, modest, calm, conditions, laid).
  DERIVED. THE GIVEN ROWS OF THIS SEAT. 8 by the template 'for every input the law returns true; each argument reads behind the call as it read before'; 0 by the template 'total and deterministic' (their statements: YtphojngdgmnpaaaTotals.lean).
  GIVEN WITH THE SEED: the statements are not yours to turn. If you find one false, say at which input.
  Laid BY PROGRAM, IN A SANDBOX (cutbox-rows.mjs): the forced cells as the released guide's own fill.sh prints them over the translation 0b0f9bf2d6d2ad81… (all of the seat's roots in one cut). By AI agents, Wed Nov 11 2026. No macro, syntax, notation, axiom, sorry.
-/
import Derived.Test.YtphojngdgmnpaaaChecked
import GoSem.Claim
import GoSem.ClaimJoined
import GoSem.ClaimMapViews
import Derived.JoinedTies
import Derived.KernelRfl
namespace Go.Proofs.Ytphojngdgmnpaaa
/- THE CELL 'sum', in the pinned program and in every row, IS THE sha256 OF THE DUMP (.gsa) THAT YtphojngdgmnpaaaProg.lean LOADS. Nothing in Lean hashes anything: it is a label: what it is worth is what the hold of that sum in a sandbox is worth. -/
noncomputable def Try.pinned : Pinned := { name := "ytphojngdgmnpaaa", sum := "0b0f9bf2d6d2ad811022803864542471801694d923f94723bc0c5bc98972da00", checked := Try.checked }
namespace Rows
def none {H : Type} : Left H := { results := [], args := [] }

/-- 'orangerylaw25.LineAll': WHATEVER THE INPUT: true; the input reads as it did. -/
def lineAllSpec : ChangeSpec := { name := "lineAll", fn := fun _ => fun
  | [d1, d2] => { results := [.lit (.bool true)], args := [d1, d2] }
  | _ => none }
def lineAllRow : OpenClaim := { program := "ytphojngdgmnpaaa", sum := "0b0f9bf2d6d2ad811022803864542471801694d923f94723bc0c5bc98972da00", func := "orangery/orangerylaw25.LineAll", spec := "lineAll", inPlace := ["internal/bytealg.abigen_runtime_cmpstring"], unfollowed := true, recurses := true, plainKeys := false, apart := false }
def LineAllSaid : Prop := lineAllRow.holds Try.pinned (OpenSpec.ofChange lineAllSpec)

/-- ITS FALSE NEIGHBOUR: 'it returns false'. Refute it at one input. -/
def lineAllWrong : ChangeSpec := { name := "lineAll", fn := fun _ => fun
  | [d1, d2] => { results := [.lit (.bool false)], args := [d1, d2] }
  | _ => none }
def LineAllWrongFalsely : Prop := lineAllRow.holds Try.pinned (OpenSpec.ofChange lineAllWrong)

/-- 'orangerylaw25.LineTrue': WHATEVER THE INPUT: true; the input reads as it did. -/
def lineTrueSpec : ChangeSpec := { name := "lineTrue", fn := fun _ => fun
  | [d1, d2] => { results := [.lit (.bool true)], args := [d1, d2] }
  | _ => none }
def lineTrueRow : OpenClaim := { program := "ytphojngdgmnpaaa", sum := "0b0f9bf2d6d2ad811022803864542471801694d923f94723bc0c5bc98972da00", func := "orangery/orangerylaw25.LineTrue", spec := "lineTrue", inPlace := ["internal/bytealg.abigen_runtime_cmpstring"], unfollowed := true, recurses := true, plainKeys := false, apart := false }
def LineTrueSaid : Prop := lineTrueRow.holds Try.pinned (OpenSpec.ofChange lineTrueSpec)

/-- ITS FALSE NEIGHBOUR: 'it returns false'. Refute it at one input. -/
def lineTrueWrong : ChangeSpec := { name := "lineTrue", fn := fun _ => fun
  | [d1, d2] => { results := [.lit (.bool false)], args := [d1, d2] }
  | _ => none }
def LineTrueWrongFalsely : Prop := lineTrueRow.holds Try.pinned (OpenSpec.ofChange lineTrueWrong)

/-- 'orangerylaw25.LineOne': WHATEVER THE INPUT: true; the input reads as it did. -/
def lineOneSpec : ChangeSpec := { name := "lineOne", fn := fun _ => fun
  | [d1, d2, d3, d4] => { results := [.lit (.bool true)], args := [d1, d2, d3, d4] }
  | _ => none }
def lineOneRow : OpenClaim := { program := "ytphojngdgmnpaaa", sum := "0b0f9bf2d6d2ad811022803864542471801694d923f94723bc0c5bc98972da00", func := "orangery/orangerylaw25.LineOne", spec := "lineOne", inPlace := ["internal/bytealg.abigen_runtime_cmpstring"], unfollowed := true, recurses := true, plainKeys := false, apart := false }
def LineOneSaid : Prop := lineOneRow.holds Try.pinned (OpenSpec.ofChange lineOneSpec)

/-- ITS FALSE NEIGHBOUR: 'it returns false'. Refute it at one input. -/
def lineOneWrong : ChangeSpec := { name := "lineOne", fn := fun _ => fun
  | [d1, d2, d3, d4] => { results := [.lit (.bool false)], args := [d1, d2, d3, d4] }
  | _ => none }
def LineOneWrongFalsely : Prop := lineOneRow.holds Try.pinned (OpenSpec.ofChange lineOneWrong)

/-- 'orangerylaw25.LinePends': WHATEVER THE INPUT: true; the input reads as it did. -/
def linePendsSpec : ChangeSpec := { name := "linePends", fn := fun _ => fun
  | [d1, d2, d3] => { results := [.lit (.bool true)], args := [d1, d2, d3] }
  | _ => none }
def linePendsRow : OpenClaim := { program := "ytphojngdgmnpaaa", sum := "0b0f9bf2d6d2ad811022803864542471801694d923f94723bc0c5bc98972da00", func := "orangery/orangerylaw25.LinePends", spec := "linePends", inPlace := ["internal/bytealg.abigen_runtime_cmpstring"], unfollowed := true, recurses := true, plainKeys := false, apart := false }
def LinePendsSaid : Prop := linePendsRow.holds Try.pinned (OpenSpec.ofChange linePendsSpec)

/-- ITS FALSE NEIGHBOUR: 'it returns false'. Refute it at one input. -/
def linePendsWrong : ChangeSpec := { name := "linePends", fn := fun _ => fun
  | [d1, d2, d3] => { results := [.lit (.bool false)], args := [d1, d2, d3] }
  | _ => none }
def LinePendsWrongFalsely : Prop := linePendsRow.holds Try.pinned (OpenSpec.ofChange linePendsWrong)

/-- 'orangerylaw25.LineMany': WHATEVER THE INPUT: true; the input reads as it did. -/
def lineManySpec : ChangeSpec := { name := "lineMany", fn := fun _ => fun
  | [d1, d2] => { results := [.lit (.bool true)], args := [d1, d2] }
  | _ => none }
def lineManyRow : OpenClaim := { program := "ytphojngdgmnpaaa", sum := "0b0f9bf2d6d2ad811022803864542471801694d923f94723bc0c5bc98972da00", func := "orangery/orangerylaw25.LineMany", spec := "lineMany", inPlace := ["internal/bytealg.abigen_runtime_cmpstring"], unfollowed := true, recurses := true, plainKeys := false, apart := false }
def LineManySaid : Prop := lineManyRow.holds Try.pinned (OpenSpec.ofChange lineManySpec)

/-- ITS FALSE NEIGHBOUR: 'it returns false'. Refute it at one input. -/
def lineManyWrong : ChangeSpec := { name := "lineMany", fn := fun _ => fun
  | [d1, d2] => { results := [.lit (.bool false)], args := [d1, d2] }
  | _ => none }
def LineManyWrongFalsely : Prop := lineManyRow.holds Try.pinned (OpenSpec.ofChange lineManyWrong)

/-- 'orangerylaw25.LineHists': WHATEVER THE INPUT: true; the input reads as it did. -/
def lineHistsSpec : ChangeSpec := { name := "lineHists", fn := fun _ => fun
  | [d1, d2, d3] => { results := [.lit (.bool true)], args := [d1, d2, d3] }
  | _ => none }
def lineHistsRow : OpenClaim := { program := "ytphojngdgmnpaaa", sum := "0b0f9bf2d6d2ad811022803864542471801694d923f94723bc0c5bc98972da00", func := "orangery/orangerylaw25.LineHists", spec := "lineHists", inPlace := ["internal/bytealg.abigen_runtime_cmpstring"], unfollowed := true, recurses := true, plainKeys := false, apart := false }
def LineHistsSaid : Prop := lineHistsRow.holds Try.pinned (OpenSpec.ofChange lineHistsSpec)

/-- ITS FALSE NEIGHBOUR: 'it returns false'. Refute it at one input. -/
def lineHistsWrong : ChangeSpec := { name := "lineHists", fn := fun _ => fun
  | [d1, d2, d3] => { results := [.lit (.bool false)], args := [d1, d2, d3] }
  | _ => none }
def LineHistsWrongFalsely : Prop := lineHistsRow.holds Try.pinned (OpenSpec.ofChange lineHistsWrong)

/-- 'orangerylaw25.LineShifts': WHATEVER THE INPUT: true; the input reads as it did. -/
def lineShiftsSpec : ChangeSpec := { name := "lineShifts", fn := fun _ => fun
  | [d1, d2, d3, d4] => { results := [.lit (.bool true)], args := [d1, d2, d3, d4] }
  | _ => none }
def lineShiftsRow : OpenClaim := { program := "ytphojngdgmnpaaa", sum := "0b0f9bf2d6d2ad811022803864542471801694d923f94723bc0c5bc98972da00", func := "orangery/orangerylaw25.LineShifts", spec := "lineShifts", inPlace := ["internal/bytealg.abigen_runtime_cmpstring"], unfollowed := true, recurses := true, plainKeys := false, apart := false }
def LineShiftsSaid : Prop := lineShiftsRow.holds Try.pinned (OpenSpec.ofChange lineShiftsSpec)

/-- ITS FALSE NEIGHBOUR: 'it returns false'. Refute it at one input. -/
def lineShiftsWrong : ChangeSpec := { name := "lineShifts", fn := fun _ => fun
  | [d1, d2, d3, d4] => { results := [.lit (.bool false)], args := [d1, d2, d3, d4] }
  | _ => none }
def LineShiftsWrongFalsely : Prop := lineShiftsRow.holds Try.pinned (OpenSpec.ofChange lineShiftsWrong)

/-- 'orangerylaw25.LineSwap': WHATEVER THE INPUT: true; the input reads as it did. -/
def lineSwapSpec : ChangeSpec := { name := "lineSwap", fn := fun _ => fun
  | [d1, d2, d3, d4] => { results := [.lit (.bool true)], args := [d1, d2, d3, d4] }
  | _ => none }
def lineSwapRow : OpenClaim := { program := "ytphojngdgmnpaaa", sum := "0b0f9bf2d6d2ad811022803864542471801694d923f94723bc0c5bc98972da00", func := "orangery/orangerylaw25.LineSwap", spec := "lineSwap", inPlace := ["internal/bytealg.abigen_runtime_cmpstring"], unfollowed := true, recurses := true, plainKeys := false, apart := false }
def LineSwapSaid : Prop := lineSwapRow.holds Try.pinned (OpenSpec.ofChange lineSwapSpec)

/-- ITS FALSE NEIGHBOUR: 'it returns false'. Refute it at one input. -/
def lineSwapWrong : ChangeSpec := { name := "lineSwap", fn := fun _ => fun
  | [d1, d2, d3, d4] => { results := [.lit (.bool false)], args := [d1, d2, d3, d4] }
  | _ => none }
def LineSwapWrongFalsely : Prop := lineSwapRow.holds Try.pinned (OpenSpec.ofChange lineSwapWrong)

/- THE SECOND FORM. 'bulk': how many values and letters a reading holds, each counted each time it is reached (what is shared counts as often as it is met; a slice's spare places count too). A statement '..UptoSaid' is the law's where the arguments, and the package variables that the reading takes, are together of bulk at most 1048576: NARROWER than '..Said'. Prove '..Said' where nothing that the law and all that it calls make is longer than what came in: it says more and counts as full. Else prove '..UptoSaid'. A law counts once. -/
mutual
def uptoBulk {H : Type} : DataW H → Nat
  | .lit (.string bytes) => bytes.length + 1
  | .lit _ => 1
  | .nil => 1
  | .ptr d => uptoBulk d + 1
  | .slice elems spare => uptoBulkAll elems + uptoBulkAll spare + 1
  | .agg parts => uptoBulkAll parts + 1
  | .iface _ d => uptoBulk d + 1
  | .map entries => uptoBulkEntries entries + 1
  | .held _ => 1
def uptoBulkAll {H : Type} : List (DataW H) → Nat
  | [] => 0
  | d :: r => uptoBulk d + uptoBulkAll r
def uptoBulkEntries {H : Type} : List (Lit × DataW H) → Nat
  | [] => 0
  | x :: r => uptoBulkEntry x + uptoBulkEntries r
def uptoBulkEntry {H : Type} : Lit × DataW H → Nat
  | (.string bytes, d) => bytes.length + uptoBulk d + 1
  | (_, d) => uptoBulk d + 1
 end
def uptoSmall : (H : Type) → List (DataW H) → Bool := fun _ ds => decide (uptoBulkAll ds ≤ 1048576)
def OpenSpec.upto (s : _root_.Go.ChangeSpec) : _root_.Go.OpenSpec := { _root_.Go.OpenSpec.ofChange s with cond := some uptoSmall }

/-- 'orangerylaw25.LineAll', WHERE WHAT IT READS IS OF BULK AT MOST 1048576: true; the input reads as it did. -/
def lineAllUptoRow : OpenClaim := { program := "ytphojngdgmnpaaa", sum := "0b0f9bf2d6d2ad811022803864542471801694d923f94723bc0c5bc98972da00", func := "orangery/orangerylaw25.LineAll", spec := "lineAll", inPlace := ["internal/bytealg.abigen_runtime_cmpstring"], unfollowed := true, recurses := true, plainKeys := false, apart := false, narrowed := true }
def LineAllUptoSaid : Prop := lineAllUptoRow.holds Try.pinned (OpenSpec.upto lineAllSpec)

/-- 'orangerylaw25.LineTrue', WHERE WHAT IT READS IS OF BULK AT MOST 1048576: true; the input reads as it did. -/
def lineTrueUptoRow : OpenClaim := { program := "ytphojngdgmnpaaa", sum := "0b0f9bf2d6d2ad811022803864542471801694d923f94723bc0c5bc98972da00", func := "orangery/orangerylaw25.LineTrue", spec := "lineTrue", inPlace := ["internal/bytealg.abigen_runtime_cmpstring"], unfollowed := true, recurses := true, plainKeys := false, apart := false, narrowed := true }
def LineTrueUptoSaid : Prop := lineTrueUptoRow.holds Try.pinned (OpenSpec.upto lineTrueSpec)

/-- 'orangerylaw25.LineOne', WHERE WHAT IT READS IS OF BULK AT MOST 1048576: true; the input reads as it did. -/
def lineOneUptoRow : OpenClaim := { program := "ytphojngdgmnpaaa", sum := "0b0f9bf2d6d2ad811022803864542471801694d923f94723bc0c5bc98972da00", func := "orangery/orangerylaw25.LineOne", spec := "lineOne", inPlace := ["internal/bytealg.abigen_runtime_cmpstring"], unfollowed := true, recurses := true, plainKeys := false, apart := false, narrowed := true }
def LineOneUptoSaid : Prop := lineOneUptoRow.holds Try.pinned (OpenSpec.upto lineOneSpec)

/-- 'orangerylaw25.LinePends', WHERE WHAT IT READS IS OF BULK AT MOST 1048576: true; the input reads as it did. -/
def linePendsUptoRow : OpenClaim := { program := "ytphojngdgmnpaaa", sum := "0b0f9bf2d6d2ad811022803864542471801694d923f94723bc0c5bc98972da00", func := "orangery/orangerylaw25.LinePends", spec := "linePends", inPlace := ["internal/bytealg.abigen_runtime_cmpstring"], unfollowed := true, recurses := true, plainKeys := false, apart := false, narrowed := true }
def LinePendsUptoSaid : Prop := linePendsUptoRow.holds Try.pinned (OpenSpec.upto linePendsSpec)

/-- 'orangerylaw25.LineMany', WHERE WHAT IT READS IS OF BULK AT MOST 1048576: true; the input reads as it did. -/
def lineManyUptoRow : OpenClaim := { program := "ytphojngdgmnpaaa", sum := "0b0f9bf2d6d2ad811022803864542471801694d923f94723bc0c5bc98972da00", func := "orangery/orangerylaw25.LineMany", spec := "lineMany", inPlace := ["internal/bytealg.abigen_runtime_cmpstring"], unfollowed := true, recurses := true, plainKeys := false, apart := false, narrowed := true }
def LineManyUptoSaid : Prop := lineManyUptoRow.holds Try.pinned (OpenSpec.upto lineManySpec)

/-- 'orangerylaw25.LineHists', WHERE WHAT IT READS IS OF BULK AT MOST 1048576: true; the input reads as it did. -/
def lineHistsUptoRow : OpenClaim := { program := "ytphojngdgmnpaaa", sum := "0b0f9bf2d6d2ad811022803864542471801694d923f94723bc0c5bc98972da00", func := "orangery/orangerylaw25.LineHists", spec := "lineHists", inPlace := ["internal/bytealg.abigen_runtime_cmpstring"], unfollowed := true, recurses := true, plainKeys := false, apart := false, narrowed := true }
def LineHistsUptoSaid : Prop := lineHistsUptoRow.holds Try.pinned (OpenSpec.upto lineHistsSpec)

/-- 'orangerylaw25.LineShifts', WHERE WHAT IT READS IS OF BULK AT MOST 1048576: true; the input reads as it did. -/
def lineShiftsUptoRow : OpenClaim := { program := "ytphojngdgmnpaaa", sum := "0b0f9bf2d6d2ad811022803864542471801694d923f94723bc0c5bc98972da00", func := "orangery/orangerylaw25.LineShifts", spec := "lineShifts", inPlace := ["internal/bytealg.abigen_runtime_cmpstring"], unfollowed := true, recurses := true, plainKeys := false, apart := false, narrowed := true }
def LineShiftsUptoSaid : Prop := lineShiftsUptoRow.holds Try.pinned (OpenSpec.upto lineShiftsSpec)

/-- 'orangerylaw25.LineSwap', WHERE WHAT IT READS IS OF BULK AT MOST 1048576: true; the input reads as it did. -/
def lineSwapUptoRow : OpenClaim := { program := "ytphojngdgmnpaaa", sum := "0b0f9bf2d6d2ad811022803864542471801694d923f94723bc0c5bc98972da00", func := "orangery/orangerylaw25.LineSwap", spec := "lineSwap", inPlace := ["internal/bytealg.abigen_runtime_cmpstring"], unfollowed := true, recurses := true, plainKeys := false, apart := false, narrowed := true }
def LineSwapUptoSaid : Prop := lineSwapUptoRow.holds Try.pinned (OpenSpec.upto lineSwapSpec)

end Rows
end Go.Proofs.Ytphojngdgmnpaaa
