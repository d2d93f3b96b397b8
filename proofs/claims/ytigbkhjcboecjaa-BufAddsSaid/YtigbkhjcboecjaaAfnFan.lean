/-
  AfnFan: walks over readings: layer fan, and the document's.
-/
import Derived.Test.YtigbkhjcboecjaaAfnFan0
namespace Go.Proofs.Ytigbkhjcboecjaa
open Go Go.RowKit
set_option linter.unusedVariables false
set_option linter.unusedSimpArgs false

theorem flat_take {α : Type} (l : List (List α)) (j : Nat) (h : j < l.length) : (l.take (j + 1)).flatten = (l.take j).flatten ++ l[j] := by
  rw [List.take_succ_eq_append_getElem h, List.flatten_append]; simp
theorem flat_le {α : Type} (l : List (List α)) (j : Nat) : (l.take j).flatten.length ≤ l.flatten.length := by
  conv => rhs; rw [← List.take_append_drop j l, List.flatten_append, List.length_append]
  omega
def insKids (ks : List Int) (i : Nat) (id : Int) : List Int := ks.take (i + 1) ++ ([id] ++ ks.drop (i + 1))
def insCuts (cs : List Key) (at_ : Nat) (x : Key) : List Key := cs.take at_ ++ ([x] ++ cs.drop at_)
def fanIns (ks : List Int) (cs : List Key) (i : Int) (x : Key) (id : Int) : List Int × List Key :=
  if 0 ≤ i ∧ i < ks.length then (insKids ks i.toNat id, insCuts cs (min i.toNat cs.length) x) else (ks, cs)
attribute [local irreducible] OpOK AWops AW CondB Go2 AFn thenA inBlockA noGotoA orderOk wantedA
def fanHal (ks : List Int) (cs : List Key) : List Int × List Key × Key × List Int × List Key × Bool :=
  if ks.length = 4 ∧ cs.length = 3 then (ks.take 2, cs.take 1, cs.getD 1 Key.zero, ks.drop 2, cs.drop 2, true) else ([], [], Key.zero, [], [], false)
def fanHalA (h : List Int × List Key × Key × List Int × List Key × Bool) : AV := .tup [intsA h.1, keysA h.2.1, h.2.2.1.av, intsA h.2.2.2.1, keysA h.2.2.2.2.1, boolA h.2.2.2.2.2]
end Go.Proofs.Ytigbkhjcboecjaa
