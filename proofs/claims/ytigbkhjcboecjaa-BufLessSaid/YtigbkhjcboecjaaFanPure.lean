/-
  FanPure: kids and pivots: what the layer's functions compute, in plain Lean.
-/
import Derived.Test.YtigbkhjcboecjaaKeyPure
namespace Go.Proofs.Ytigbkhjcboecjaa
open Go Go.RowKit
set_option linter.unusedVariables false
set_option linter.unusedSimpArgs false

/-- the first place of a number, from place i on; -1 -/
def idxFrom (x : Int) : Nat → List Int → Int
  | _, [] => -1
  | i, y :: l => if y = x then (i : Int) else idxFrom x (i + 1) l
def idxOf (l : List Int) (x : Int) : Int := idxFrom x 0 l
theorem idxFrom_nil (x : Int) (i : Nat) : idxFrom x i [] = -1 := rfl
theorem idxFrom_hit (l : List Int) (x : Int) (i : Nat) (h : i < l.length) (e : l[i] = x) : idxFrom x i (l.drop i) = i := by
  rw [List.drop_eq_getElem_cons h, idxFrom, if_pos e]
theorem idxFrom_miss (l : List Int) (x : Int) (i : Nat) (h : i < l.length) (e : l[i] ≠ x) : idxFrom x i (l.drop i) = idxFrom x (i + 1) (l.drop (i + 1)) := by
  rw [List.drop_eq_getElem_cons h, idxFrom, if_neg e]
theorem idxFrom_end (l : List Int) (x : Int) (i : Nat) (h : l.length ≤ i) : idxFrom x i (l.drop i) = -1 := by
  rw [List.drop_eq_nil_of_le h]; rfl
/-- each number from place i on is a block's and stands first there -/
def kidsFrom (all : List Int) : Nat → List Int → Bool
  | _, [] => true
  | i, y :: l => decide (1 ≤ y) && decide (y < 256) && decide (idxOf all y = (i : Int)) && kidsFrom all (i + 1) l
/-- keys that are right and rise, each against the one ahead -/
def risesBy (cmp : Key → Key → Int) : Option Key → List Key → Bool
  | _, [] => true
  | p, k :: l => k.ok && (match p with | none => true | some q => decide (cmp q k < 0)) && risesBy cmp (some k) l
def fanOkBy (cmp : Key → Key → Int) (ks : List Int) (cs : List Key) : Bool :=
  decide (2 ≤ ks.length) && decide (ks.length ≤ 4) && decide (cs.length + 1 = ks.length) && kidsFrom ks 0 ks && risesBy cmp none cs
theorem risesBy_eq : ∀ (l : List Key) (p : Option Key), (∀ q, p = some q → q.ok = true) → risesBy refCmp p l = risesBy keyCmp p l
  | [], _, _ => rfl
  | k :: l, p, h => by
    simp only [risesBy]
    cases hk : k.ok
    · simp
    · rw [risesBy_eq l (some k) (fun q e => by injection e with e; rw [← e]; exact hk)]
      cases p with
      | none => rfl
      | some q =>
        have e := refCmp_key (h q rfl) hk
        simp only [e]
theorem fanOk_eq (ks : List Int) (cs : List Key) : fanOkBy refCmp ks cs = fanOkBy keyCmp ks cs := by
  unfold fanOkBy
  rw [risesBy_eq cs none (fun q e => by cases e)]
theorem kidsFrom_step (all l : List Int) (i : Nat) (h : i < l.length) : kidsFrom all i (l.drop i) = (decide (1 ≤ l[i]) && decide (l[i] < 256) && decide (idxOf all l[i] = (i : Int)) && kidsFrom all (i + 1) (l.drop (i + 1))) := by
  rw [List.drop_eq_getElem_cons h, kidsFrom]
theorem kidsFrom_end (all l : List Int) (i : Nat) (h : l.length ≤ i) : kidsFrom all i (l.drop i) = true := by
  rw [List.drop_eq_nil_of_le h]; rfl
def ahead (l : List Key) : Nat → Option Key
  | 0 => none
  | i + 1 => l[i]?
theorem risesBy_step0 (cmp : Key → Key → Int) (l : List Key) (h : 0 < l.length) : risesBy cmp (ahead l 0) (l.drop 0) = (l[0].ok && risesBy cmp (ahead l 1) (l.drop 1)) := by
  rw [List.drop_eq_getElem_cons h]
  simp [ahead, h, risesBy]
theorem risesBy_step (cmp : Key → Key → Int) (l : List Key) (i : Nat) (h : i + 1 < l.length) : risesBy cmp (ahead l (i + 1)) (l.drop (i + 1)) = (l[i + 1].ok && decide (cmp l[i] l[i + 1] < 0) && risesBy cmp (ahead l (i + 2)) (l.drop (i + 2))) := by
  rw [List.drop_eq_getElem_cons h]
  simp only [ahead]
  rw [List.getElem?_eq_getElem (show i < l.length by omega), List.getElem?_eq_getElem h]
  rfl
theorem risesBy_stepk (cmp : Key → Key → Int) (l : List Key) (k j : Nat) (hj : k = j + 1) (h : k < l.length) : risesBy cmp (ahead l k) (l.drop k) = (l[k].ok && decide (cmp (l[j]'(by omega)) l[k] < 0) && risesBy cmp (ahead l (k + 1)) (l.drop (k + 1))) := by
  subst hj
  exact risesBy_step cmp l j h
theorem risesBy_end (cmp : Key → Key → Int) (l : List Key) (p : Option Key) (i : Nat) (h : l.length ≤ i) : risesBy cmp p (l.drop i) = true := by
  rw [List.drop_eq_nil_of_le h]; rfl
/-- to which kid a key goes -/
def kidBy (cmp : Key → Key → Int) (k : Key) (l : List Key) : Nat := l.countP fun p => decide (cmp p k ≤ 0)
theorem kidBy_yes (cmp : Key → Key → Int) (k : Key) (l : List Key) (i : Nat) (h : i < l.length) (c : cmp l[i] k ≤ 0) : kidBy cmp k (l.take (i + 1)) = kidBy cmp k (l.take i) + 1 := by
  unfold kidBy
  rw [List.take_succ_eq_append_getElem h, List.countP_append]
  simp [c]
theorem kidBy_no (cmp : Key → Key → Int) (k : Key) (l : List Key) (i : Nat) (h : i < l.length) (c : ¬ cmp l[i] k ≤ 0) : kidBy cmp k (l.take (i + 1)) = kidBy cmp k (l.take i) := by
  unfold kidBy
  rw [List.take_succ_eq_append_getElem h, List.countP_append]
  simp [c]
theorem kidBy_le (cmp : Key → Key → Int) (k : Key) (l : List Key) : kidBy cmp k l ≤ l.length := List.countP_le_length
end Go.Proofs.Ytigbkhjcboecjaa
