/-
  NumPure: numbers as bytes, the lowest first; values as numbers. Plain Lean, no program.
-/
import Derived.Test.YtigbkhjcboecjaaKeyPure
namespace Go.Proofs.Ytigbkhjcboecjaa
open Go Go.RowKit
set_option linter.unusedVariables false
set_option linter.unusedSimpArgs false

/-- the number that bytes are -/
def leNum : List (BitVec 8) → BitVec 64
  | [] => 0#64
  | b :: bs => (leNum bs <<< 8) ||| b.setWidth 64
/-- a number's bytes -/
def leBytes (n : BitVec 64) : Nat → List (BitVec 8)
  | 0 => []
  | w + 1 => n.setWidth 8 :: leBytes (n >>> 8) w
theorem leBytes_length (n : BitVec 64) (w : Nat) : (leBytes n w).length = w := by
  induction w generalizing n with
  | zero => rfl
  | succ w ih => simp [leBytes, ih]
theorem leBytes_get (n : BitVec 64) (w i : Nat) (h : i < w) : (leBytes n w)[i]? = some ((n >>> (8 * i)).setWidth 8) := by
  induction w generalizing n i with
  | zero => omega
  | succ w ih =>
    cases i with
    | zero => simp [leBytes]
    | succ i =>
      rw [leBytes, List.getElem?_cons_succ, ih _ _ (by omega), ← BitVec.shiftRight_add, show 8 + 8 * i = 8 * (i + 1) from by omega]
theorem leBytes_snoc (n : BitVec 64) (w : Nat) : leBytes n (w + 1) = leBytes n w ++ [(n >>> (8 * w)).setWidth 8] := by
  apply List.ext_getElem?
  intro i
  rw [List.getElem?_append, leBytes_length]
  by_cases h : i < w
  · rw [if_pos h, leBytes_get _ _ _ h, leBytes_get _ _ _ (by omega)]
  · rw [if_neg h]
    by_cases h2 : i = w
    · subst h2; rw [leBytes_get _ _ _ (by omega)]; simp
    · rw [List.getElem?_eq_none (by rw [leBytes_length]; omega), List.getElem?_eq_none (by simp; omega)]
theorem leNum_bit (bs : List (BitVec 8)) (b : BitVec 8) (i : Nat) (h : i < 64) : (leNum (b :: bs)).getLsbD i = if i < 8 then b.getLsbD i else (leNum bs).getLsbD (i - 8) := by
  rw [leNum, BitVec.getLsbD_or, BitVec.getLsbD_shiftLeft, BitVec.getLsbD_setWidth]
  by_cases h8 : i < 8
  · rw [if_pos h8]; simp [h8, h]
  · rw [if_neg h8, BitVec.getLsbD_of_ge b i (by omega)]; simp [h8, h]
theorem leNum_leBytes (n : BitVec 64) (w i : Nat) (h : i < 64) : (leNum (leBytes n w)).getLsbD i = (decide (i < 8 * w) && n.getLsbD i) := by
  induction w generalizing n i with
  | zero => simp [leBytes, leNum]
  | succ w ih =>
    rw [leBytes, leNum_bit _ _ _ h]
    by_cases h8 : i < 8
    · rw [if_pos h8]; simp [h8, show i < 8 * (w + 1) from by omega]
    · rw [if_neg h8, ih _ _ (by omega), BitVec.getLsbD_ushiftRight, show 8 + (i - 8) = i from by omega]
      congr 1
      rw [decide_eq_decide]; omega
theorem leNum_bytes (n : BitVec 64) : leNum (leBytes n 8) = n := by
  apply BitVec.eq_of_getLsbD_eq
  intro i hi
  rw [leNum_leBytes _ _ _ hi]
  simp [hi]
def numOf (v : Vl) : BitVec 64 := leNum (v.b.toList.take 8)
def fromN (n : BitVec 64) : Vl := mkVl (leBytes n 8)
def vplus (v : Vl) (by_ : BitVec 64) : Vl := fromN (numOf v + by_)
theorem fromN_ok (n : BitVec 64) : (fromN n).ok = true := mkVl_ok _ (by rw [leBytes_length]; omega)
theorem numOf_from (n : BitVec 64) : numOf (fromN n) = n := by
  unfold numOf fromN mkVl
  have h : (padded 16 (leBytes n 8)).toList.take 8 = leBytes n 8 := by
    have := cut_padded 16 (leBytes n 8) (by rw [leBytes_length]; omega)
    rw [leBytes_length] at this
    exact this
  rw [h, leNum_bytes]
theorem vplus_plus (v : Vl) (a b : BitVec 64) : vplus (vplus v a) b = vplus v (a + b) := by unfold vplus; rw [numOf_from, BitVec.add_assoc]
theorem vplus_from (a b : BitVec 64) : vplus (fromN a) b = fromN (a + b) := by unfold vplus; rw [numOf_from]
end Go.Proofs.Ytigbkhjcboecjaa
