/-
  No cell of these rows narrows 'for every input' (looked for: loops, veiled, ifaces, maps, wideKeys, modest, calm, conditions, laid).
  DERIVED. THE GIVEN ROWS OF THIS SEAT. 7 by the template 'for every input the law returns true; each argument reads behind the call as it read before'; 0 by the template 'total and deterministic' (their statements: YtigbkhjcboecjaaTotals.lean).
  GIVEN WITH THE SEED: the statements are not yours to turn. If you find one false, say at which input.
  Laid BY PROGRAM, IN A SANDBOX (cutbox-rows.mjs): the forced cells as the released guide's own fill.sh prints them over the translation 1249f8749c411ef1… (all of the seat's roots in one cut). By AI agents, Wed Nov 11 2026. No macro, syntax, notation, axiom, sorry.
-/
import Derived.Test.YtigbkhjcboecjaaChecked
import GoSem.Claim
import GoSem.ClaimJoined
import GoSem.ClaimMapViews
import Derived.JoinedTies
import Derived.KernelRfl
namespace Go.Proofs.Ytigbkhjcboecjaa
/- THE CELL 'sum', in the pinned program and in every row, IS THE sha256 OF THE DUMP (.gsa) THAT YtigbkhjcboecjaaProg.lean LOADS. Nothing in Lean hashes anything: it is a label: what it is worth is what the hold of that sum in a sandbox is worth. -/
noncomputable def Try.pinned : Pinned := { name := "ytigbkhjcboecjaa", sum := "1249f8749c411ef14d8775f27f48b9f3f26f2967f6a5dcb7aaaae524ffe9821c", checked := Try.checked }
namespace Rows
def none {H : Type} : Left H := { results := [], args := [] }

/-- 'orangerylaw06.BufAll': WHATEVER THE INPUT: true; the input reads as it did. -/
def bufAllSpec : ChangeSpec := { name := "bufAll", fn := fun _ => fun
  | [d1, d2, d3, d4, d5] => { results := [.lit (.bool true)], args := [d1, d2, d3, d4, d5] }
  | _ => none }
def bufAllRow : OpenClaim := { program := "ytigbkhjcboecjaa", sum := "1249f8749c411ef14d8775f27f48b9f3f26f2967f6a5dcb7aaaae524ffe9821c", func := "orangery/orangerylaw06.BufAll", spec := "bufAll", inPlace := ["internal/bytealg.abigen_runtime_cmpstring"], unfollowed := true, recurses := true, apart := false }
def BufAllSaid : Prop := bufAllRow.holds Try.pinned (OpenSpec.ofChange bufAllSpec)

/-- ITS FALSE NEIGHBOUR: 'it returns false'. Refute it at one input. -/
def bufAllWrong : ChangeSpec := { name := "bufAll", fn := fun _ => fun
  | [d1, d2, d3, d4, d5] => { results := [.lit (.bool false)], args := [d1, d2, d3, d4, d5] }
  | _ => none }
def BufAllWrongFalsely : Prop := bufAllRow.holds Try.pinned (OpenSpec.ofChange bufAllWrong)

/-- 'orangerylaw06.BufRaw': WHATEVER THE INPUT: true; the input reads as it did. -/
def bufRawSpec : ChangeSpec := { name := "bufRaw", fn := fun _ => fun
  | [d] => { results := [.lit (.bool true)], args := [d] }
  | _ => none }
def bufRawRow : OpenClaim := { program := "ytigbkhjcboecjaa", sum := "1249f8749c411ef14d8775f27f48b9f3f26f2967f6a5dcb7aaaae524ffe9821c", func := "orangery/orangerylaw06.BufRaw", spec := "bufRaw", inPlace := ["internal/bytealg.abigen_runtime_cmpstring"], unfollowed := true, recurses := true, apart := false }
def BufRawSaid : Prop := bufRawRow.holds Try.pinned (OpenSpec.ofChange bufRawSpec)

/-- ITS FALSE NEIGHBOUR: 'it returns false'. Refute it at one input. -/
def bufRawWrong : ChangeSpec := { name := "bufRaw", fn := fun _ => fun
  | [d] => { results := [.lit (.bool false)], args := [d] }
  | _ => none }
def BufRawWrongFalsely : Prop := bufRawRow.holds Try.pinned (OpenSpec.ofChange bufRawWrong)

/-- 'orangerylaw06.BufAdds': WHATEVER THE INPUT: true; the input reads as it did. -/
def bufAddsSpec : ChangeSpec := { name := "bufAdds", fn := fun _ => fun
  | [d1, d2, d3] => { results := [.lit (.bool true)], args := [d1, d2, d3] }
  | _ => none }
def bufAddsRow : OpenClaim := { program := "ytigbkhjcboecjaa", sum := "1249f8749c411ef14d8775f27f48b9f3f26f2967f6a5dcb7aaaae524ffe9821c", func := "orangery/orangerylaw06.BufAdds", spec := "bufAdds", inPlace := ["internal/bytealg.abigen_runtime_cmpstring"], unfollowed := true, recurses := true, apart := false }
def BufAddsSaid : Prop := bufAddsRow.holds Try.pinned (OpenSpec.ofChange bufAddsSpec)

/-- ITS FALSE NEIGHBOUR: 'it returns false'. Refute it at one input. -/
def bufAddsWrong : ChangeSpec := { name := "bufAdds", fn := fun _ => fun
  | [d1, d2, d3] => { results := [.lit (.bool false)], args := [d1, d2, d3] }
  | _ => none }
def BufAddsWrongFalsely : Prop := bufAddsRow.holds Try.pinned (OpenSpec.ofChange bufAddsWrong)

/-- 'orangerylaw06.BufParts': WHATEVER THE INPUT: true; the input reads as it did. -/
def bufPartsSpec : ChangeSpec := { name := "bufParts", fn := fun _ => fun
  | [d1, d2] => { results := [.lit (.bool true)], args := [d1, d2] }
  | _ => none }
def bufPartsRow : OpenClaim := { program := "ytigbkhjcboecjaa", sum := "1249f8749c411ef14d8775f27f48b9f3f26f2967f6a5dcb7aaaae524ffe9821c", func := "orangery/orangerylaw06.BufParts", spec := "bufParts", inPlace := ["internal/bytealg.abigen_runtime_cmpstring"], unfollowed := true, recurses := true, apart := false }
def BufPartsSaid : Prop := bufPartsRow.holds Try.pinned (OpenSpec.ofChange bufPartsSpec)

/-- ITS FALSE NEIGHBOUR: 'it returns false'. Refute it at one input. -/
def bufPartsWrong : ChangeSpec := { name := "bufParts", fn := fun _ => fun
  | [d1, d2] => { results := [.lit (.bool false)], args := [d1, d2] }
  | _ => none }
def BufPartsWrongFalsely : Prop := bufPartsRow.holds Try.pinned (OpenSpec.ofChange bufPartsWrong)

/-- 'orangerylaw06.BufBatches': WHATEVER THE INPUT: true; the input reads as it did. -/
def bufBatchesSpec : ChangeSpec := { name := "bufBatches", fn := fun _ => fun
  | [d] => { results := [.lit (.bool true)], args := [d] }
  | _ => none }
def bufBatchesRow : OpenClaim := { program := "ytigbkhjcboecjaa", sum := "1249f8749c411ef14d8775f27f48b9f3f26f2967f6a5dcb7aaaae524ffe9821c", func := "orangery/orangerylaw06.BufBatches", spec := "bufBatches", inPlace := ["internal/bytealg.abigen_runtime_cmpstring"], unfollowed := true, recurses := true, apart := false }
def BufBatchesSaid : Prop := bufBatchesRow.holds Try.pinned (OpenSpec.ofChange bufBatchesSpec)

/-- ITS FALSE NEIGHBOUR: 'it returns false'. Refute it at one input. -/
def bufBatchesWrong : ChangeSpec := { name := "bufBatches", fn := fun _ => fun
  | [d] => { results := [.lit (.bool false)], args := [d] }
  | _ => none }
def BufBatchesWrongFalsely : Prop := bufBatchesRow.holds Try.pinned (OpenSpec.ofChange bufBatchesWrong)

/-- 'orangerylaw06.BufFolds': WHATEVER THE INPUT: true; the input reads as it did. -/
def bufFoldsSpec : ChangeSpec := { name := "bufFolds", fn := fun _ => fun
  | [d1, d2, d3] => { results := [.lit (.bool true)], args := [d1, d2, d3] }
  | _ => none }
def bufFoldsRow : OpenClaim := { program := "ytigbkhjcboecjaa", sum := "1249f8749c411ef14d8775f27f48b9f3f26f2967f6a5dcb7aaaae524ffe9821c", func := "orangery/orangerylaw06.BufFolds", spec := "bufFolds", inPlace := ["internal/bytealg.abigen_runtime_cmpstring"], unfollowed := true, recurses := true, apart := false }
def BufFoldsSaid : Prop := bufFoldsRow.holds Try.pinned (OpenSpec.ofChange bufFoldsSpec)

/-- ITS FALSE NEIGHBOUR: 'it returns false'. Refute it at one input. -/
def bufFoldsWrong : ChangeSpec := { name := "bufFolds", fn := fun _ => fun
  | [d1, d2, d3] => { results := [.lit (.bool false)], args := [d1, d2, d3] }
  | _ => none }
def BufFoldsWrongFalsely : Prop := bufFoldsRow.holds Try.pinned (OpenSpec.ofChange bufFoldsWrong)

/-- 'orangerylaw06.BufLess': WHATEVER THE INPUT: true; the input reads as it did. -/
def bufLessSpec : ChangeSpec := { name := "bufLess", fn := fun _ => fun
  | [d1, d2, d3] => { results := [.lit (.bool true)], args := [d1, d2, d3] }
  | _ => none }
def bufLessRow : OpenClaim := { program := "ytigbkhjcboecjaa", sum := "1249f8749c411ef14d8775f27f48b9f3f26f2967f6a5dcb7aaaae524ffe9821c", func := "orangery/orangerylaw06.BufLess", spec := "bufLess", inPlace := ["internal/bytealg.abigen_runtime_cmpstring"], unfollowed := true, recurses := true, apart := false }
def BufLessSaid : Prop := bufLessRow.holds Try.pinned (OpenSpec.ofChange bufLessSpec)

/-- ITS FALSE NEIGHBOUR: 'it returns false'. Refute it at one input. -/
def bufLessWrong : ChangeSpec := { name := "bufLess", fn := fun _ => fun
  | [d1, d2, d3] => { results := [.lit (.bool false)], args := [d1, d2, d3] }
  | _ => none }
def BufLessWrongFalsely : Prop := bufLessRow.holds Try.pinned (OpenSpec.ofChange bufLessWrong)

/- THE SECOND FORM. 'bulk': how many values and letters a reading holds, each counted each time it is reached (what is shared counts as often as it is met; a slice's spare places count too). A statement '..UptoSaid' is the law's where the arguments, and the package variables that the reading takes, are together of bulk at most 1048576: NARROWER than '..Said'. Prove '..Said' where nothing that the law and all that it calls make is longer than what came in: it says more and counts as full. Else prove '..UptoSaid'. A law counts once. -/
mutual
def uptoBulk {H : Type} : DataW H → Nat
  | .lit (.string bytes) => bytes.length + 1
  | .lit _ => 1
  | .nil => 1
  | .ptr d => uptoBulk d + 1
  | .slice elems spare => uptoBulkAll elems + uptoBulkAll spare + 1
  | .agg parts => uptoBulkAll parts + 1
  | .iface _ d => uptoBulk d + 1
  | .map entries => uptoBulkEntries entries + 1
  | .held _ => 1
def uptoBulkAll {H : Type} : List (DataW H) → Nat
  | [] => 0
  | d :: r => uptoBulk d + uptoBulkAll r
def uptoBulkEntries {H : Type} : List (Lit × DataW H) → Nat
  | [] => 0
  | x :: r => uptoBulkEntry x + uptoBulkEntries r
def uptoBulkEntry {H : Type} : Lit × DataW H → Nat
  | (.string bytes, d) => bytes.length + uptoBulk d + 1
  | (_, d) => uptoBulk d + 1
 end
def uptoSmall : (H : Type) → List (DataW H) → Bool := fun _ ds => decide (uptoBulkAll ds ≤ 1048576)
def OpenSpec.upto (s : _root_.Go.ChangeSpec) : _root_.Go.OpenSpec := { _root_.Go.OpenSpec.ofChange s with cond := some uptoSmall }

/-- 'orangerylaw06.BufAll', WHERE WHAT IT READS IS OF BULK AT MOST 1048576: true; the input reads as it did. -/
def bufAllUptoRow : OpenClaim := { program := "ytigbkhjcboecjaa", sum := "1249f8749c411ef14d8775f27f48b9f3f26f2967f6a5dcb7aaaae524ffe9821c", func := "orangery/orangerylaw06.BufAll", spec := "bufAll", inPlace := ["internal/bytealg.abigen_runtime_cmpstring"], unfollowed := true, recurses := true, apart := false, narrowed := true }
def BufAllUptoSaid : Prop := bufAllUptoRow.holds Try.pinned (OpenSpec.upto bufAllSpec)

/-- 'orangerylaw06.BufRaw', WHERE WHAT IT READS IS OF BULK AT MOST 1048576: true; the input reads as it did. -/
def bufRawUptoRow : OpenClaim := { program := "ytigbkhjcboecjaa", sum := "1249f8749c411ef14d8775f27f48b9f3f26f2967f6a5dcb7aaaae524ffe9821c", func := "orangery/orangerylaw06.BufRaw", spec := "bufRaw", inPlace := ["internal/bytealg.abigen_runtime_cmpstring"], unfollowed := true, recurses := true, apart := false, narrowed := true }
def BufRawUptoSaid : Prop := bufRawUptoRow.holds Try.pinned (OpenSpec.upto bufRawSpec)

/-- 'orangerylaw06.BufAdds', WHERE WHAT IT READS IS OF BULK AT MOST 1048576: true; the input reads as it did. -/
def bufAddsUptoRow : OpenClaim := { program := "ytigbkhjcboecjaa", sum := "1249f8749c411ef14d8775f27f48b9f3f26f2967f6a5dcb7aaaae524ffe9821c", func := "orangery/orangerylaw06.BufAdds", spec := "bufAdds", inPlace := ["internal/bytealg.abigen_runtime_cmpstring"], unfollowed := true, recurses := true, apart := false, narrowed := true }
def BufAddsUptoSaid : Prop := bufAddsUptoRow.holds Try.pinned (OpenSpec.upto bufAddsSpec)

/-- 'orangerylaw06.BufParts', WHERE WHAT IT READS IS OF BULK AT MOST 1048576: true; the input reads as it did. -/
def bufPartsUptoRow : OpenClaim := { program := "ytigbkhjcboecjaa", sum := "1249f8749c411ef14d8775f27f48b9f3f26f2967f6a5dcb7aaaae524ffe9821c", func := "orangery/orangerylaw06.BufParts", spec := "bufParts", inPlace := ["internal/bytealg.abigen_runtime_cmpstring"], unfollowed := true, recurses := true, apart := false, narrowed := true }
def BufPartsUptoSaid : Prop := bufPartsUptoRow.holds Try.pinned (OpenSpec.upto bufPartsSpec)

/-- 'orangerylaw06.BufBatches', WHERE WHAT IT READS IS OF BULK AT MOST 1048576: true; the input reads as it did. -/
def bufBatchesUptoRow : OpenClaim := { program := "ytigbkhjcboecjaa", sum := "1249f8749c411ef14d8775f27f48b9f3f26f2967f6a5dcb7aaaae524ffe9821c", func := "orangery/orangerylaw06.BufBatches", spec := "bufBatches", inPlace := ["internal/bytealg.abigen_runtime_cmpstring"], unfollowed := true, recurses := true, apart := false, narrowed := true }
def BufBatchesUptoSaid : Prop := bufBatchesUptoRow.holds Try.pinned (OpenSpec.upto bufBatchesSpec)

/-- 'orangerylaw06.BufFolds', WHERE WHAT IT READS IS OF BULK AT MOST 1048576: true; the input reads as it did. -/
def bufFoldsUptoRow : OpenClaim := { program := "ytigbkhjcboecjaa", sum := "1249f8749c411ef14d8775f27f48b9f3f26f2967f6a5dcb7aaaae524ffe9821c", func := "orangery/orangerylaw06.BufFolds", spec := "bufFolds", inPlace := ["internal/bytealg.abigen_runtime_cmpstring"], unfollowed := true, recurses := true, apart := false, narrowed := true }
def BufFoldsUptoSaid : Prop := bufFoldsUptoRow.holds Try.pinned (OpenSpec.upto bufFoldsSpec)

/-- 'orangerylaw06.BufLess', WHERE WHAT IT READS IS OF BULK AT MOST 1048576: true; the input reads as it did. -/
def bufLessUptoRow : OpenClaim := { program := "ytigbkhjcboecjaa", sum := "1249f8749c411ef14d8775f27f48b9f3f26f2967f6a5dcb7aaaae524ffe9821c", func := "orangery/orangerylaw06.BufLess", spec := "bufLess", inPlace := ["internal/bytealg.abigen_runtime_cmpstring"], unfollowed := true, recurses := true, apart := false, narrowed := true }
def BufLessUptoSaid : Prop := bufLessUptoRow.holds Try.pinned (OpenSpec.upto bufLessSpec)

end Rows
end Go.Proofs.Ytigbkhjcboecjaa
