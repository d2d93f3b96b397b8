/-
  The chapter's examples of the checksums: awake answers true. No condition.
-/
import Derived.Test.YtdbiioihdkaejaaCrcWalks
import Derived.Lib.SlBytesConst
namespace Go.Proofs.Ytdbiioihdkaejaa
open Go Go.RowKit
set_option linter.unusedVariables false

/-- 123456789 -/
def nine : List (BitVec 8) := [49#8, 50#8, 51#8, 52#8, 53#8, 54#8, 55#8, 56#8, 57#8]
theorem sum_nine : W32 (sumL nine) = 3421780262 := by
  have h : sumL nine = 3421780262#32 := by decide +kernel
  rw [h, W32_def]; rfl

def nineC : Array Value := #[.int .u8 49, .int .u8 50, .int .u8 51, .int .u8 52, .int .u8 53, .int .u8 54, .int .u8 55, .int .u8 56, .int .u8 57]
theorem nine_row (i : Nat) (h : i < nine.length) : rowOf nineC (0 + i * 1) 1 = some (be nine[i]) := by
  match i, h with
  | 0, _ | 1, _ | 2, _ | 3, _ | 4, _ | 5, _ | 6, _ | 7, _ | 8, _ => simp [rowOf, nineC, nine, be, B8_def]
  | n + 9, h => simp [nine] at h; omega
theorem nine_sl (w : World) (fr : Nat × Nat) : Sl be 1 (w.alloc (.cells nineC 5 fr)) (.slice (some ⟨w.heap.size, 0, none⟩) 9 9) nine :=
  ⟨some ⟨w.heap.size, 0, none⟩, 9, rfl, by decide, by unfold maxLen; omega, fun _ => ⟨w.heap.size, 0, rfl, by simp, fun i hi => by rw [row_alloc_at _ _ _ _ _ _ _ rfl]; exact nine_row i hi⟩⟩
theorem W32_zero : W32 0#32 = 0 := by rw [W32_def]; rfl
theorem sum_nil : W32 (sumL []) = 0 := by
  have h : sumL [] = 0#32 := by decide +kernel
  rw [h, W32_zero]
theorem more_nine : W32 (moreL 0#32 nine) = 3421780262 := sum_nine
theorem zeros_nine : (W32 (moreL (sumL nine) (List.replicate (many 1) 0#8)) != W32 (sumL nine)) = true := by
  have h : moreL (sumL nine) (List.replicate (many 1) 0#8) ≠ sumL nine := by decide +kernel
  rw [bne_iff_ne]
  intro e
  exact h (W32_inj.1 e)

set_option maxHeartbeats 1000000 in
theorem awake_any (w : World) : Calls Try.prog 9 #[] w (Is w (.bool true)) := by
  have kc := fun (w : World) (C : Array Value) (n c : Nat) => Lib.run_convert_bytes_const (P := Try.prog) w 22 5 C n c Try.underlying22 Try.underlying5
  go_enter Try.func9, Try.ntmps9
  go_wp2_with fail
  refine (sum_any _ nine _ (nine_sl w (9, 10))).mono ?_
  rintro e w1 ⟨rfl, he1⟩
  rw [sum_nine]
  go_wp2_with fail
  refine (sum_any _ [] _ (Sl.nil _ _ _)).mono ?_
  rintro e w2 ⟨rfl, he2⟩
  rw [sum_nil]
  go_wp2_with fail
  have hm := more_any 0#32 _ nine _ (nine_sl w2 (9, 10))
  rw [W32_zero] at hm
  refine hm.mono ?_
  rintro e w3 ⟨rfl, he3⟩
  rw [more_nine]
  go_wp2_with fail
  rw [← sum_nine]
  refine (zeros_any _ _ _).mono ?_
  rintro e w4 ⟨rfl, he4⟩
  have hz := zeros_nine
  go_wp2
  go_ret
  refine ⟨?_, ?_⟩
  · simp
  · exact ((Ext.refl w).alloc _).trans (he1.trans (he2.trans (((Ext.refl w2).alloc _).trans (he3.trans he4))))
end Go.Proofs.Ytdbiioihdkaejaa
