/-
  AfnFan0: walks over readings: whether lists are kids and pivots, where a kid stands; the program's and the document's.
-/
import Derived.Test.YtigbkhjcboecjaaAfn
namespace Go.Proofs.Ytigbkhjcboecjaa
open Go Go.RowKit
set_option linter.unusedVariables false
set_option linter.unusedSimpArgs false

theorem kids_no (ks : List Int) (cs : List Key) (cmp : Key → Key → Int) (j : Nat) (h : j < ks.length) (hJ : kidsFrom ks 0 ks = kidsFrom ks j (ks.drop j)) (e : ks[j] < 1 ∨ 256 ≤ ks[j] ∨ idxOf ks ks[j] ≠ (j : Int)) : fanOkBy cmp ks cs = false := by
  unfold fanOkBy
  rw [hJ, kidsFrom_step ks ks j h]
  rcases e with e | e | e
  · rw [show decide (1 ≤ ks[j]) = false from decide_eq_false (by omega)]; simp
  · rw [show decide (ks[j] < 256) = false from decide_eq_false (by omega)]; simp
  · rw [show decide (idxOf ks ks[j] = (j : Int)) = false from decide_eq_false e]; simp
theorem kids_on (ks : List Int) (j : Nat) (h : j < ks.length) (hJ : kidsFrom ks 0 ks = kidsFrom ks j (ks.drop j)) (e1 : ¬ ks[j] < 1) (e2 : ¬ 256 ≤ ks[j]) (e3 : idxOf ks ks[j] = (j : Int)) : kidsFrom ks 0 ks = kidsFrom ks (j + 1) (ks.drop (j + 1)) := by
  rw [hJ, kidsFrom_step ks ks j h, show decide (1 ≤ ks[j]) = true from decide_eq_true (by omega), show decide (ks[j] < 256) = true from decide_eq_true (by omega), show decide (idxOf ks ks[j] = (j : Int)) = true from decide_eq_true e3]
  simp
theorem fan_no (ks : List Int) (cs : List Key) (cmp : Key → Key → Int) (e : ks.length < 2 ∨ 4 < ks.length ∨ cs.length + 1 ≠ ks.length) : fanOkBy cmp ks cs = false := by
  unfold fanOkBy
  rcases e with e | e | e
  · rw [show decide (2 ≤ ks.length) = false from decide_eq_false (by omega)]; simp
  · rw [show decide (ks.length ≤ 4) = false from decide_eq_false (by omega)]; simp
  · rw [show decide (cs.length + 1 = ks.length) = false from decide_eq_false e]; simp
theorem fan_on (ks : List Int) (cs : List Key) (cmp : Key → Key → Int) (h2 : 2 ≤ ks.length) (h4 : ks.length ≤ 4) (hc : cs.length + 1 = ks.length) (hk : kidsFrom ks 0 ks = true) : fanOkBy cmp ks cs = risesBy cmp none cs := by
  unfold fanOkBy
  rw [decide_eq_true h2, decide_eq_true h4, decide_eq_true hc, hk]; simp
theorem rise_no0 (cmp : Key → Key → Int) (cs : List Key) (j : Nat) (h : j < cs.length) (hJ : risesBy cmp none cs = risesBy cmp (ahead cs j) (cs.drop j)) (e : cs[j].ok = false) : risesBy cmp none cs = false := by
  cases j with
  | zero => rw [hJ, risesBy_step0 cmp cs h, e]; rfl
  | succ m => rw [hJ, risesBy_step cmp cs m h, e]; rfl
theorem rise_no1 (cmp : Key → Key → Int) (cs : List Key) (m : Nat) (h : m + 1 < cs.length) (hJ : risesBy cmp none cs = risesBy cmp (ahead cs (m + 1)) (cs.drop (m + 1))) (e : 0 ≤ cmp cs[m] cs[m + 1]) : risesBy cmp none cs = false := by
  rw [hJ, risesBy_step cmp cs m h, show decide (cmp cs[m] cs[m + 1] < 0) = false from decide_eq_false (by omega)]; simp
theorem rise_on0 (cmp : Key → Key → Int) (cs : List Key) (h : 0 < cs.length) (hJ : risesBy cmp none cs = risesBy cmp (ahead cs 0) (cs.drop 0)) (e : cs[0].ok = true) : risesBy cmp none cs = risesBy cmp (ahead cs 1) (cs.drop 1) := by
  rw [hJ, risesBy_step0 cmp cs h, e]; simp
theorem rise_on1 (cmp : Key → Key → Int) (cs : List Key) (m : Nat) (h : m + 1 < cs.length) (hJ : risesBy cmp none cs = risesBy cmp (ahead cs (m + 1)) (cs.drop (m + 1))) (e : cs[m + 1].ok = true) (c : ¬ 0 ≤ cmp cs[m] cs[m + 1]) : risesBy cmp none cs = risesBy cmp (ahead cs (m + 2)) (cs.drop (m + 2)) := by
  rw [hJ, risesBy_step cmp cs m h, e, show decide (cmp cs[m] cs[m + 1] < 0) = true from decide_eq_true (by omega)]; simp
attribute [local irreducible] OpOK AWops AW CondB Go2 AFn thenA inBlockA noGotoA orderOk wantedA
end Go.Proofs.Ytigbkhjcboecjaa
