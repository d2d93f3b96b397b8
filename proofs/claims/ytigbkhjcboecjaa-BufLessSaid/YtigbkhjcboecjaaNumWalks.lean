/-
  NumWalks: what the number functions compute: the plain law's words. Conditions: widths from 1 to 8, places within the row.
-/
import Derived.Test.YtigbkhjcboecjaaNumPure
namespace Go.Proofs.Ytigbkhjcboecjaa
open Go Go.RowKit
set_option linter.unusedVariables false
set_option linter.unusedSimpArgs false

theorem wrap_u64' (n : Int) : IntKind.u64.wrap n = n % 18446744073709551616 := by simp [IntKind.wrap, IntKind.bits, IntKind.signed]
theorem D64_lt (x : BitVec 64) : D64 x < 18446744073709551616 := by rw [D64_def]; have := x.isLt; omega
theorem D64_shr8 (x : BitVec 64) : D64 x / (256 : Int) = D64 (x >>> 8) := by
  rw [D64_def, D64_def, BitVec.toNat_ushiftRight, Nat.shiftRight_eq_div_pow]; omega
theorem B8_of_D64 (x : BitVec 64) : IntKind.u8.wrap (D64 x) = B8 (x.setWidth 8) := by
  rw [IntKind.wrap_u8', D64_def, B8_def, BitVec.toNat_setWidth]; omega
theorem D64_and255 (x : BitVec 64) : bits .and .u64 (D64 x) 255 = D64 (x &&& 255#64) := by
  rw [D64_def, D64_def, BitVec.toNat_and]
  have h := u64_and_nat x.toNat 255 x.isLt (by omega)
  exact h
theorem D64_or (x y : BitVec 64) : bits .or .u64 (D64 x) (D64 y) = D64 (x ||| y) := by
  rw [D64_def, D64_def, D64_def, BitVec.toNat_or]
  exact u64_or_nat x.toNat y.toNat x.isLt y.isLt
theorem D64_of_B8 (x : BitVec 8) : IntKind.u64.wrap (B8 x) = D64 (x.setWidth 64) := by
  rw [wrap_u64', D64_def, B8_def, BitVec.toNat_setWidth]; have := x.isLt; omega
theorem D64_shl8 (x : BitVec 64) : IntKind.u64.wrap (D64 x * 256) = D64 (x <<< 8) := by
  rw [wrap_u64', D64_def, D64_def, BitVec.toNat_shiftLeft, Nat.shiftLeft_eq]; omega
theorem D64_add (x y : BitVec 64) : IntKind.u64.wrap (D64 x + D64 y) = D64 (x + y) := by
  rw [wrap_u64', D64_def, D64_def, D64_def, BitVec.toNat_add]; omega
attribute [go_sem] D64_shr8 B8_of_D64 D64_and255 D64_nonneg D64_lt D64_or D64_of_B8 D64_shl8 D64_add

theorem and255_byte (x : BitVec 64) : (x &&& 255#64).setWidth 8 = x.setWidth 8 := by
  apply BitVec.eq_of_getLsbD_eq
  intro i hi
  rw [BitVec.getLsbD_setWidth, BitVec.getLsbD_setWidth, BitVec.getLsbD_and]
  have : (255#64).getLsbD i = true := by
    have h : ∀ j, j < 8 → (255#64).getLsbD j = true := by decide
    exact h i hi
  rw [this]; simp
theorem and255_8 (x : BitVec 8) : x &&& 255#8 = x := by
  have : (255#8 : BitVec 8) = BitVec.allOnes 8 := rfl
  rw [this, BitVec.and_allOnes]
attribute [go_sem] and255_byte and255_8

set_option maxRecDepth 100000 in
set_option maxHeartbeats 2000000 in
/-- the document's Put -/
theorem refput_any (v : Value) (xs : List (BitVec 8)) (n : BitVec 64) (wd : Nat) (w : World) (h : Sl be 1 w v xs) (hx : xs.length ≤ 100000000000000) (h1 : 1 ≤ wd) (h8 : wd ≤ 8) :
    Calls Try.prog 64 #[v, .int .u64 (D64 n), .int .i64 (wd : Int)] w (Ret w fun u w' => Own w.heap.size 5 be 1 w' u (xs ++ leBytes n wd)) := by
  go_enter Try.func64, Try.ntmps64
  go_wp2_with (at_builtin; refine wpList_append_sl (by rfl) (.tmp 9) (.tmp 10) (by rfl) slT_bytes be_ok (by rfl) (by rfl) (Own.empty w.heap.size _ be 1 w (Nat.le_refl _)) (h.ext (by repeat (first | exact Ext.refl _ | assumption | refine Ext.drew ?_ | refine Ext.drewN ?_ _ | refine Ext.alloc ?_ _ | refine Ext.trans ?_ (by assumption)))) (by simp only [List.length_nil, maxLen]; omega) (by simp only [List.length_nil]; omega) (by simp) ?_; intro v1 W1 hown1 hg1 hat1; have he1 : Ext w W1 := ((Ext.refl w).alloc _).append hg1 (Own.empty w.heap.size _ be 1 w (Nat.le_refl _)) (Nat.le_refl _); simp only [List.nil_append] at hown1; clear hg1 hat1)
  go_loopw [1, 7, 8] (fun nn o i wr => ∃ k : Nat, k ≤ wd ∧ i = .int .i64 k ∧ nn = .int .u64 (D64 (n >>> (8 * k))) ∧ Own w.heap.size 5 be 1 wr o (xs ++ leBytes n k) ∧ Ext w wr) (fun _ _ i _ => wd - (intOf i).toNat)
  case atStart => exact ⟨0, by omega, rfl, rfl, by simpa [leBytes] using hown1, he1⟩
  case round =>
    obtain ⟨k, hk, rfl, rfl, hown, he⟩ := hrel
    have hl := leBytes_length n k
    have HL := Lib.hid hl
    clear hl
    by_cases hlt : k < wd
    · have HS := Lib.hid (leBytes_snoc n k)
      have HN := Lib.hid (show n >>> (8 * k) >>> 8 = n >>> (8 * (k + 1)) from by rw [← BitVec.shiftRight_add]; rfl)
      go_wp2_with (at_builtin; refine wpList_append_sl (by rfl) (.tmp 24) (.tmp 28) (by rfl) slT_bytes be_ok (by rfl) (by rfl) (hown.alloc _) (Sl.one be_ok wr 5 (0, 0) ((n >>> (8 * k)).setWidth 8)) (by simp only [List.length_append, HL.out, List.length_singleton, maxLen]; omega) (by simp only [List.length_append, HL.out, List.length_singleton]; omega) (by have := he.le; simp; omega) ?_; intro v2 W2 hown2 hg2 hat2; have he2 : Ext w W2 := (he.alloc _).append hg2 (hown.alloc _) (Nat.le_refl _); clear hg2 hat2)
      go_roundw
      case rel => exact ⟨k + 1, by omega, by go_num, by rw [HN.out], by rw [HS.out, ← List.append_assoc]; exact hown2, he2⟩
      case measure => simp [intOf]; omega
    · obtain rfl : k = wd := by omega
      go_wp2
      go_ret
      exact ⟨_, rfl, hown, he⟩

/-- so many bytes from a place on -/
def seg (xs : List (BitVec 8)) (at_ wd : Nat) : List (BitVec 8) := (xs.drop at_).take wd
theorem seg_step (xs : List (BitVec 8)) (at_ wd k : Nat) (h : at_ + wd ≤ xs.length) (hk : k < wd) : leNum ((seg xs at_ wd).drop k) = (leNum ((seg xs at_ wd).drop (k + 1)) <<< 8) ||| (xs[at_ + k]'(by omega)).setWidth 64 := by
  have hl : (seg xs at_ wd).length = wd := by unfold seg; simp; omega
  rw [List.drop_eq_getElem_cons (by omega), leNum]
  congr 2
  unfold seg; simp

set_option maxRecDepth 100000 in
set_option maxHeartbeats 4000000 in
/-- the document's Num -/
theorem refnum_any (v : Value) (xs : List (BitVec 8)) (at_ wd : Nat) (w : World) (h : Sl be 1 w v xs) (h1 : 1 ≤ wd) (h8 : wd ≤ 8) (ha : at_ + wd ≤ xs.length) :
    Calls Try.prog 71 #[v, .int .i64 (at_ : Int), .int .i64 (wd : Int)] w fun e w' => e = .returned (.tuple #[.int .u64 (D64 (leNum (seg xs at_ wd))), .bool true]) ∧ w' = w := by
  obtain ⟨A, cap, rfl, h0, hc, hA⟩ := h
  obtain ⟨b, off, rfl, hb, hr⟩ := hA (by omega)
  unfold maxLen at hc
  have hl : (seg xs at_ wd).length = wd := by unfold seg; simp; omega
  have i1 : ¬ (wd : Int) < 1 := by omega
  have i2 : ¬ 8 < (wd : Int) := by omega
  have i3 : ¬ (at_ : Int) < 0 := by omega
  have i4 : ¬ (xs.length : Int) - wd < at_ := by omega
  have HR := Lib.hid hr
  have HL := Lib.hid hl
  clear hr hA hl
  have HZ := Lib.hid (show (0 : Int) = D64 0#64 from D64_zero.symm)
  go_enter Try.func71, Try.ntmps71
  go_wp2
  go_loop [8, 9] (fun nn i => ∃ k : Nat, k ≤ wd ∧ i = .int .i64 ((k : Int) - 1) ∧ nn = .int .u64 (D64 (leNum ((seg xs at_ wd).drop k)))) (fun _ i => ((intOf i) + 1).toNat)
  case atStart => exact ⟨wd, by omega, rfl, by rw [List.drop_eq_nil_of_le (by rw [HL.out]; omega)]; simp only [leNum]; rw [D64_zero]⟩
  case round =>
    obtain ⟨k, hk, rfl, rfl⟩ := hrel
    by_cases hlt : 0 < k
    · obtain ⟨j, rfl⟩ : ∃ j, k = j + 1 := ⟨k - 1, by omega⟩
      have hc1 := SlAt.byte' HR.out (i := at_ + j) (by omega)
      have HS := Lib.hid (seg_step xs at_ wd j ha (by omega))
      have e1 : ((j + 1 : Nat) : Int) - 1 = (j : Int) := by omega
      rw [e1]
      have i5 : (0 : Int) ≤ (at_ : Int) + j := by omega
      have i6 : (at_ : Int) + j < xs.length := by omega
      have e2 : off + ((at_ : Int) + j).toNat = off + (at_ + j) := by omega
      have i7 : (0 : Int) ≤ (j : Int) := by omega
      clear e1
      go_wp2
      go_round
      case rel => exact ⟨j, by omega, by go_num, by rw [HS.out]⟩
      case measure => simp [intOf]
    · obtain rfl : k = 0 := by omega
      go_wp2
      exact bodyPost_ret (results_2 rfl res_tmp res_tmp) rfl ⟨rfl, rfl⟩
end Go.Proofs.Ytigbkhjcboecjaa
