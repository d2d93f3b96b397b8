/-
  KeyWalks: what the program's key functions compute: the plain law's words. No conditions on the keys.
-/
import Derived.Test.YtigbkhjcboecjaaKeyRefs
namespace Go.Proofs.Ytigbkhjcboecjaa
open Go Go.RowKit
set_option linter.unusedVariables false
set_option linter.unusedSimpArgs false

/-! ### the program's Check, Text, Compare -/
set_option maxRecDepth 100000 in
set_option maxHeartbeats 4000000 in
/-- the program's Check -/
theorem keycheck_any (k : Key) (w : World) : Calls Try.prog 57 #[.agg k.arr] w (Is w (.bool k.ok)) := by
  by_cases h0 : k.n < 0
  · have hok : k.ok = false := (Key.ok_false k).2 (.inl h0)
    go_enter Try.func57, Try.ntmps57
    go_wp2
    go_ret
    exact ⟨by simp [hok], (by repeat (first | exact Ext.refl _ | assumption | refine Ext.drew ?_ | refine Ext.drewN ?_ _ | refine Ext.alloc ?_ _ | refine Ext.trans ?_ (by assumption)))⟩
  have h0' : 0 ≤ k.n := by omega
  by_cases h8 : 8 < k.n
  · have hok : k.ok = false := (Key.ok_false k).2 (.inr (.inl h8))
    go_enter Try.func57, Try.ntmps57
    go_wp2
    go_ret
    exact ⟨by simp [hok], (by repeat (first | exact Ext.refl _ | assumption | refine Ext.drew ?_ | refine Ext.drewN ?_ _ | refine Ext.alloc ?_ _ | refine Ext.trans ?_ (by assumption)))⟩
  have h8' : k.n ≤ 8 := by omega
  obtain ⟨kn, kb⟩ := k
  obtain ⟨n, rfl⟩ : ∃ n : Nat, kn = (n : Int) := ⟨kn.toNat, by simp at h0'; omega⟩
  have hn8 : n ≤ 8 := by simp at h8'; omega
  have hn8' : (n : Int) ≤ 8 := by omega
  go_enter Try.func57, Try.ntmps57
  go_wp2
  have hmin : min 8 n = n := by omega
  go_region_held3 (fun W => W.cell? ⟨w.heap.size, 0, none⟩ = some (.int .i64 (n : Int))) ((simp [go_sem])) (fail)
  go_wp2
  go_ret
  have hk : (Key.mk (n : Int) kb).ok = decide (trunc kb n = kb) := by rw [Bool.eq_iff_iff, Key.ok_iff]; simp [hn8']
  exact ⟨by rw [hk, over_zero_cut]; rfl, (by repeat (first | exact Ext.refl _ | assumption | refine Ext.drew ?_ | refine Ext.drewN ?_ _ | refine Ext.alloc ?_ _ | refine Ext.trans ?_ (by assumption)))⟩

set_option maxRecDepth 100000 in
set_option maxHeartbeats 4000000 in
/-- the program's Text -/
theorem keytext_any (k : Key) (w : World) : Calls Try.prog 60 #[.agg k.arr] w (Is w (.string (bytesOf k.txt))) := by
  cases hok : k.ok
  · have htx := Key.txt_no hok
    go_enter Try.func60, Try.ntmps60
    go_wp2_with fail
    refine (keycheck_any _ _).mono ?_
    rintro e w1 ⟨rfl, he1⟩
    go_wp2
    go_ret
    exact ⟨by rw [htx, bytesOf_nil]; rfl, (by repeat (first | exact Ext.refl _ | assumption | refine Ext.drew ?_ | refine Ext.drewN ?_ _ | refine Ext.alloc ?_ _ | refine Ext.trans ?_ (by assumption)))⟩
  · have htx := Key.txt_ok hok
    obtain ⟨h0, h8, -⟩ := (Key.ok_iff k).1 hok
    obtain ⟨kn, kb⟩ := k
    obtain ⟨n, rfl⟩ : ∃ n : Nat, kn = (n : Int) := ⟨kn.toNat, by simp at h0; omega⟩
    have hn8 : n ≤ 8 := by simp at h8; omega
    have hn8' : (n : Int) ≤ 8 := by omega
    have HT := Lib.hid htx
    clear htx
    go_enter Try.func60, Try.ntmps60
    go_wp2_with fail
    refine (keycheck_any _ _).mono ?_
    rintro e w1 ⟨rfl, he1⟩
    have hr : row? w1 w.heap.size 0 9 = some (Key.mk (n : Int) kb).arr := he1.row (by simp [go_sem])
    have hc := row_cell hr (j := 0) (by omega) (Key.arr_n _)
    have hs := sl_of_bArr (g := w.heap.size) (o := 1) (w := w1) (b := kb) (by rw [← Nat.zero_add 1, row_sub hr 1 8 (by omega)]; exact Key.row_b _) n 8 hn8 hn8 (by unfold maxLen; omega)
    have hcv := run_str_sl Try.underlying61 Try.underlying5 Try.underlying9 hs
    clear hs
    simp only [Nat.zero_add] at hc
    go_wp2
    go_ret
    exact ⟨by rw [HT.out]; rfl, (by repeat (first | exact Ext.refl _ | assumption | refine Ext.drew ?_ | refine Ext.drewN ?_ _ | refine Ext.alloc ?_ _ | refine Ext.trans ?_ (by assumption)))⟩


set_option maxRecDepth 100000 in
set_option maxHeartbeats 1000000 in
theorem cmpstring_any (a b : ByteArray) (w : World) : Calls Try.prog 68 #[.string a, .string b] w fun e w' => e = .returned (.int .i64 (Lib.compareBytes a.data.toList b.data.toList)) ∧ w' = w := by
  go_enter Try.func68, Try.ntmps68
  go_wp2
  rw [run_callFunc_extern Try.func72 (by kernel_rfl) (by kernel_rfl) (by kernel_rfl) (e := Extern.BytealgCompare.compare) (by kernel_rfl), Lib.run_compareString]
  simp only [Result.andThen]
  rw [Oper.upon_value]
  go_wp2
  go_ret
  exact ⟨rfl, rfl⟩
theorem strcmp_any (k m : List (BitVec 8)) (w : World) : Calls Try.prog 59 #[.string (bytesOf k), .string (bytesOf m)] w fun e w' => e = .returned (.int .i64 (lexCmp k m)) ∧ w' = w := by
  have H := Lib.hid (compareBytes_eq k m)
  go_enter Try.func59, Try.ntmps59
  go_wp2_with (go_at_call 68; refine (cmpstring_any _ _ _).mono ?_; rintro e w1 ⟨rfl, rfl⟩)
  go_ret
  exact ⟨by rw [H.out]; rfl, rfl⟩

set_option maxRecDepth 100000 in
set_option maxHeartbeats 4000000 in
/-- the program's Compare -/
theorem keycmp_any (a b : Key) (w : World) : Calls Try.prog 43 #[.agg a.arr, .agg b.arr] w (Is w (.int .i64 (keyCmp a b))) := by
  go_enter Try.func43, Try.ntmps43
  go_wp2
  have hA : row? ((w.alloc (.cells a.arr 27)).alloc (.cells b.arr 27)) w.heap.size 0 9 = some a.arr := by simp [go_sem]
  have hB : row? ((w.alloc (.cells a.arr 27)).alloc (.cells b.arr 27)) (w.heap.size + 1) 0 9 = some b.arr := by simp [go_sem]
  go_region_held3 (fun W => row? W w.heap.size 0 9 = some a.arr ∧ row? W (w.heap.size + 1) 0 9 = some b.arr)
    (exact ⟨Ext.row (by repeat (first | exact Ext.refl _ | assumption | refine Ext.drew ?_ | refine Ext.drewN ?_ _ | refine Ext.alloc ?_ _ | refine Ext.trans ?_ (by assumption))) hA, Ext.row (by repeat (first | exact Ext.refl _ | assumption | refine Ext.drew ?_ | refine Ext.drewN ?_ _ | refine Ext.alloc ?_ _ | refine Ext.trans ?_ (by assumption))) hB⟩)
    ((first | (go_at_call 60; refine (keytext_any _ _).mono ?_; rintro e w1 ⟨rfl, he1⟩) | (go_at_call 59; refine (strcmp_any _ _ _).mono ?_; rintro e w1 ⟨rfl, rfl⟩)))
  all_goals go_wp2
  all_goals go_ret
  all_goals exact ⟨rfl, (by repeat (first | exact Ext.refl _ | assumption | refine Ext.drew ?_ | refine Ext.drewN ?_ _ | refine Ext.alloc ?_ _ | refine Ext.trans ?_ (by assumption)))⟩
end Go.Proofs.Ytigbkhjcboecjaa
