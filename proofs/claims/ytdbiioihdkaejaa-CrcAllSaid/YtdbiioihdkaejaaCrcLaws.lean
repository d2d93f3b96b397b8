/-
  The walks of the laws of the checksums: each answers true. Conditions: the arguments read as lists of bytes and as numbers.
-/
import Derived.Test.YtdbiioihdkaejaaCrcAwake
namespace Go.Proofs.Ytdbiioihdkaejaa
open Go Go.RowKit
set_option linter.unusedVariables false

theorem be_ofInt (n : Int) (h : (Lit.int .u8 n).wf = true) : be (BitVec.ofInt 8 n) = #[.int .u8 n] := by
  have : 0 ≤ n ∧ n ≤ 255 := by simp [Lit.wf, IntKind.min, IntKind.max, IntKind.signed, IntKind.bits] at h; omega
  unfold be
  rw [B8_ofInt n (by omega) (by omega)]

set_option maxHeartbeats 1000000 in
theorem crcAll_walk (v0 : Value) (l0 : List (BitVec 8)) (x1 : BitVec 32) (n2 : Int) (w : World) (s0 : Sl be 1 w v0 l0) (b2 : -9223372036854775808 ≤ n2 ∧ n2 ≤ 9223372036854775807) :
    Calls Try.prog 3 #[v0, .int .u32 (W32 x1), .int .i64 n2] w (Is w (.bool true)) := by
  have s0' := s0
  obtain ⟨A, cap, rfl, h0, h1, hA⟩ := s0
  unfold maxLen at h1
  by_cases hl : l0.length > 2000 ∨ (3000 < n2 ∧ n2 < 65530)
  · have Hl := Lib.hid hl
    by_cases h2 : (2000 : Int) < l0.length
    · clear hl
      go_enter Try.func3, Try.ntmps3
      go_wp2_with (go_at_call 9; refine (awake_any _).mono ?_; rintro e w1 ⟨rfl, he1⟩)
      go_ret
      exact ⟨rfl, he1⟩
    · obtain ⟨h3, h4⟩ : 3000 < n2 ∧ n2 < 65530 := by omega
      clear hl
      go_enter Try.func3, Try.ntmps3
      go_wp2_with (go_at_call 9; refine (awake_any _).mono ?_; rintro e w1 ⟨rfl, he1⟩)
      go_ret
      exact ⟨rfl, he1⟩
  · have h2 : ¬ (2000 : Int) < l0.length := by omega
    have Hl := Lib.hid hl
    clear hl
    by_cases h3 : 3000 < n2
    · have h4 : ¬ n2 < 65530 := by have := Hl.out; omega
      go_enter Try.func3, Try.ntmps3
      go_wp2_with fail
      refine (sum_any _ _ _ s0').mono ?_
      rintro e w1 ⟨rfl, he1⟩
      go_wp2_with fail
      refine (refsum_any _ _ _ (s0'.ext (by repeat (first | exact Ext.refl _ | assumption | refine Ext.drew ?_ | refine Ext.drewN ?_ _ | refine Ext.alloc ?_ _ | refine Ext.trans ?_ (by assumption))))).mono ?_
      rintro e w2 ⟨rfl, rfl⟩
      go_wp2_with fail
      refine (more_any _ _ _ _ (s0'.ext (by repeat (first | exact Ext.refl _ | assumption | refine Ext.drew ?_ | refine Ext.drewN ?_ _ | refine Ext.alloc ?_ _ | refine Ext.trans ?_ (by assumption))))).mono ?_
      rintro e w2 ⟨rfl, he2⟩
      go_wp2_with fail
      refine (refmore_any _ _ _ _ (s0'.ext (by repeat (first | exact Ext.refl _ | assumption | refine Ext.drew ?_ | refine Ext.drewN ?_ _ | refine Ext.alloc ?_ _ | refine Ext.trans ?_ (by assumption))))).mono ?_
      rintro e w3 ⟨rfl, rfl⟩
      go_wp2_with fail
      refine (zeros_any _ _ _).mono ?_
      rintro e w3 ⟨rfl, he3⟩
      go_wp2_with fail
      refine (refzeros_any _ _ _).mono ?_
      rintro e w4 ⟨rfl, rfl⟩
      go_wp2_with fail
      refine (awake_any _).mono ?_
      rintro e w4 ⟨rfl, he4⟩
      go_wp2
      go_ret
      exact ⟨by simp, (by repeat (first | exact Ext.refl _ | assumption | refine Ext.drew ?_ | refine Ext.drewN ?_ _ | refine Ext.alloc ?_ _ | refine Ext.trans ?_ (by assumption)))⟩
    · go_enter Try.func3, Try.ntmps3
      go_wp2_with fail
      refine (sum_any _ _ _ s0').mono ?_
      rintro e w1 ⟨rfl, he1⟩
      go_wp2_with fail
      refine (refsum_any _ _ _ (s0'.ext (by repeat (first | exact Ext.refl _ | assumption | refine Ext.drew ?_ | refine Ext.drewN ?_ _ | refine Ext.alloc ?_ _ | refine Ext.trans ?_ (by assumption))))).mono ?_
      rintro e w2 ⟨rfl, rfl⟩
      go_wp2_with fail
      refine (more_any _ _ _ _ (s0'.ext (by repeat (first | exact Ext.refl _ | assumption | refine Ext.drew ?_ | refine Ext.drewN ?_ _ | refine Ext.alloc ?_ _ | refine Ext.trans ?_ (by assumption))))).mono ?_
      rintro e w2 ⟨rfl, he2⟩
      go_wp2_with fail
      refine (refmore_any _ _ _ _ (s0'.ext (by repeat (first | exact Ext.refl _ | assumption | refine Ext.drew ?_ | refine Ext.drewN ?_ _ | refine Ext.alloc ?_ _ | refine Ext.trans ?_ (by assumption))))).mono ?_
      rintro e w3 ⟨rfl, rfl⟩
      go_wp2_with fail
      refine (zeros_any _ _ _).mono ?_
      rintro e w3 ⟨rfl, he3⟩
      go_wp2_with fail
      refine (refzeros_any _ _ _).mono ?_
      rintro e w4 ⟨rfl, rfl⟩
      go_wp2_with fail
      refine (awake_any _).mono ?_
      rintro e w4 ⟨rfl, he4⟩
      go_wp2
      go_ret
      exact ⟨by simp, (by repeat (first | exact Ext.refl _ | assumption | refine Ext.drew ?_ | refine Ext.drewN ?_ _ | refine Ext.alloc ?_ _ | refine Ext.trans ?_ (by assumption)))⟩
end Go.Proofs.Ytdbiioihdkaejaa
