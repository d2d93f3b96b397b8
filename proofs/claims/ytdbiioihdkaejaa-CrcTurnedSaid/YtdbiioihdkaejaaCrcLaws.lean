/-
  The walks of the laws of the checksums: each answers true. Conditions: the arguments read as lists of bytes and as numbers.
-/
import Derived.Test.YtdbiioihdkaejaaCrcAwake
import Derived.Test.YtdbiioihdkaejaaOwn
namespace Go.Proofs.Ytdbiioihdkaejaa
open Go Go.RowKit
set_option linter.unusedVariables false

theorem be_ofInt (n : Int) (h : (Lit.int .u8 n).wf = true) : be (BitVec.ofInt 8 n) = #[.int .u8 n] := by
  have : 0 ≤ n ∧ n ≤ 255 := by simp [Lit.wf, IntKind.min, IntKind.max, IntKind.signed, IntKind.bits] at h; omega
  unfold be
  rw [B8_ofInt n (by omega) (by omega)]

set_option maxHeartbeats 1000000 in
theorem crcAll_walk (v0 : Value) (l0 : List (BitVec 8)) (x1 : BitVec 32) (n2 : Int) (w : World) (s0 : Sl be 1 w v0 l0) (b2 : -9223372036854775808 ≤ n2 ∧ n2 ≤ 9223372036854775807) :
    Calls Try.prog 3 #[v0, .int .u32 (W32 x1), .int .i64 n2] w (Is w (.bool true)) := by
  have s0' := s0
  obtain ⟨A, cap, rfl, h0, h1, hA⟩ := s0
  unfold maxLen at h1
  by_cases hl : l0.length > 2000 ∨ (3000 < n2 ∧ n2 < 65530)
  · have Hl := Lib.hid hl
    by_cases h2 : (2000 : Int) < l0.length
    · clear hl
      go_enter Try.func3, Try.ntmps3
      go_wp2_with (go_at_call 9; refine (awake_any _).mono ?_; rintro e w1 ⟨rfl, he1⟩)
      go_ret
      exact ⟨rfl, he1⟩
    · obtain ⟨h3, h4⟩ : 3000 < n2 ∧ n2 < 65530 := by omega
      clear hl
      go_enter Try.func3, Try.ntmps3
      go_wp2_with (go_at_call 9; refine (awake_any _).mono ?_; rintro e w1 ⟨rfl, he1⟩)
      go_ret
      exact ⟨rfl, he1⟩
  · have h2 : ¬ (2000 : Int) < l0.length := by omega
    have Hl := Lib.hid hl
    clear hl
    by_cases h3 : 3000 < n2
    · have h4 : ¬ n2 < 65530 := by have := Hl.out; omega
      go_enter Try.func3, Try.ntmps3
      go_wp2_with fail
      refine (sum_any _ _ _ s0').mono ?_
      rintro e w1 ⟨rfl, he1⟩
      go_wp2_with fail
      refine (refsum_any _ _ _ (s0'.ext (by repeat (first | exact Ext.refl _ | assumption | refine Ext.drew ?_ | refine Ext.drewN ?_ _ | refine Ext.alloc ?_ _ | refine Ext.trans ?_ (by assumption))))).mono ?_
      rintro e w2 ⟨rfl, rfl⟩
      go_wp2_with fail
      refine (more_any _ _ _ _ (s0'.ext (by repeat (first | exact Ext.refl _ | assumption | refine Ext.drew ?_ | refine Ext.drewN ?_ _ | refine Ext.alloc ?_ _ | refine Ext.trans ?_ (by assumption))))).mono ?_
      rintro e w2 ⟨rfl, he2⟩
      go_wp2_with fail
      refine (refmore_any _ _ _ _ (s0'.ext (by repeat (first | exact Ext.refl _ | assumption | refine Ext.drew ?_ | refine Ext.drewN ?_ _ | refine Ext.alloc ?_ _ | refine Ext.trans ?_ (by assumption))))).mono ?_
      rintro e w3 ⟨rfl, rfl⟩
      go_wp2_with fail
      refine (zeros_any _ _ _).mono ?_
      rintro e w3 ⟨rfl, he3⟩
      go_wp2_with fail
      refine (refzeros_any _ _ _).mono ?_
      rintro e w4 ⟨rfl, rfl⟩
      go_wp2_with fail
      refine (awake_any _).mono ?_
      rintro e w4 ⟨rfl, he4⟩
      go_wp2
      go_ret
      exact ⟨by simp, (by repeat (first | exact Ext.refl _ | assumption | refine Ext.drew ?_ | refine Ext.drewN ?_ _ | refine Ext.alloc ?_ _ | refine Ext.trans ?_ (by assumption)))⟩
    · go_enter Try.func3, Try.ntmps3
      go_wp2_with fail
      refine (sum_any _ _ _ s0').mono ?_
      rintro e w1 ⟨rfl, he1⟩
      go_wp2_with fail
      refine (refsum_any _ _ _ (s0'.ext (by repeat (first | exact Ext.refl _ | assumption | refine Ext.drew ?_ | refine Ext.drewN ?_ _ | refine Ext.alloc ?_ _ | refine Ext.trans ?_ (by assumption))))).mono ?_
      rintro e w2 ⟨rfl, rfl⟩
      go_wp2_with fail
      refine (more_any _ _ _ _ (s0'.ext (by repeat (first | exact Ext.refl _ | assumption | refine Ext.drew ?_ | refine Ext.drewN ?_ _ | refine Ext.alloc ?_ _ | refine Ext.trans ?_ (by assumption))))).mono ?_
      rintro e w2 ⟨rfl, he2⟩
      go_wp2_with fail
      refine (refmore_any _ _ _ _ (s0'.ext (by repeat (first | exact Ext.refl _ | assumption | refine Ext.drew ?_ | refine Ext.drewN ?_ _ | refine Ext.alloc ?_ _ | refine Ext.trans ?_ (by assumption))))).mono ?_
      rintro e w3 ⟨rfl, rfl⟩
      go_wp2_with fail
      refine (zeros_any _ _ _).mono ?_
      rintro e w3 ⟨rfl, he3⟩
      go_wp2_with fail
      refine (refzeros_any _ _ _).mono ?_
      rintro e w4 ⟨rfl, rfl⟩
      go_wp2_with fail
      refine (awake_any _).mono ?_
      rintro e w4 ⟨rfl, he4⟩
      go_wp2
      go_ret
      exact ⟨by simp, (by repeat (first | exact Ext.refl _ | assumption | refine Ext.drew ?_ | refine Ext.drewN ?_ _ | refine Ext.alloc ?_ _ | refine Ext.trans ?_ (by assumption)))⟩

theorem sl_bytes (x : Value) (lo hi mx : Option Value) : Instr.sliceAt 22 x lo hi mx = slRow 22 x lo hi mx := slRow_eq _ _ _ _ _
theorem info_u8 : (Try.prog.info? 5).map (·.size) = some 1 := by kernel_rfl
theorem sl_bytes_hi (A : Option Addr) (len cap : Nat) (k : Int) (h0 : 0 ≤ k) (h1 : k ≤ cap) (w : World) : (slRow 22 (.slice A len cap) none (some (.int .i64 k)) none).run Try.prog w = .ok (.slice A k.toNat cap) w := run_sl_hi Try.underlying22 info_u8 A len cap k h0 h1 w
theorem sl_bytes_lo (A : Option Addr) (len cap : Nat) (k : Int) (h0 : 0 ≤ k) (h1 : k ≤ len) (w : World) : (slRow 22 (.slice A len cap) (some (.int .i64 k)) none none).run Try.prog w = .ok (.slice (cutA cap k.toNat 1 A) (len - k.toNat) (cap - k.toNat)) w := run_sl_lo Try.underlying22 info_u8 A len cap k h0 h1 w
attribute [local go_sem ↓] sl_bytes
attribute [local go_sem] sl_bytes_hi sl_bytes_lo

theorem tmod_abs (n : Int) (m : Nat) (hm : 0 < m) : ∃ k : Nat, k < m ∧ (n.tmod m = k ∨ n.tmod m = -(k : Int)) := by
  refine ⟨(n.tmod m).natAbs, ?_, by omega⟩
  have h := Int.natAbs_tmod n m
  rw [h]
  exact Nat.mod_lt _ hm

set_option maxHeartbeats 2000000 in
theorem crcJoins_walk (v0 : Value) (l0 : List (BitVec 8)) (n1 : Int) (w : World) (s0 : Sl be 1 w v0 l0) (b1 : -9223372036854775808 ≤ n1 ∧ n1 ≤ 9223372036854775807) :
    Calls Try.prog 4 #[v0, .int .i64 n1] w (Is w (.bool true)) := by
  have s0' := s0
  obtain ⟨A, cap, rfl, h0, h1, hA⟩ := s0
  unfold maxLen at h1
  by_cases h2 : (2000 : Int) < l0.length
  · go_enter Try.func4, Try.ntmps4
    go_wp2_with (go_at_call 9; refine (awake_any _).mono ?_; rintro e w1 ⟨rfl, he1⟩)
    go_ret
    exact ⟨rfl, he1⟩
  · obtain ⟨k, hk, hk2⟩ := tmod_abs n1 (l0.length + 1) (by omega)
    rw [show ((l0.length + 1 : Nat) : Int) = (l0.length : Int) + 1 from by omega] at hk2
    have hk0 : (0 : Int) ≤ k := by omega
    have hk3 : (k : Int) ≤ l0.length := by omega
    have hk4 : (k : Int) ≤ cap := by omega
    have sT := s0'.hi k (by omega)
    have sD := s0'.lo k (by omega)
    have hj := Lib.hid ((sumL_joins (l0.take k) (l0.drop k)).trans (by rw [List.take_append_drop]))
    have hneg : n1.tmod ((l0.length : Int) + 1) = k ∨ (n1.tmod ((l0.length : Int) + 1) = -(k : Int) ∧ (0 : Int) < k) := by omega
    clear hk2
    rcases hneg with hk2 | ⟨hk2, hkp⟩
    all_goals
      go_enter Try.func4, Try.ntmps4
      go_wp2_with fail
      have Hk2 := Lib.hid hk2
      clear hk2
      have hjj := hj.out
      go_region_held3 (fun _ => True) (trivial) ((first | (go_at_call 10; refine (sum_any _ (l0.take k) _ (sT.ext (by exact (by repeat (first | exact Ext.refl _ | assumption | refine Ext.drew ?_ | refine Ext.drewN ?_ _ | refine Ext.alloc ?_ _ | refine Ext.trans ?_ (by assumption)))))).mono ?_; rintro e w1 ⟨rfl, he1⟩) | (go_at_call 12; refine (more_any _ _ (l0.drop k) _ (sD.ext (by repeat (first | exact Ext.refl _ | assumption | refine Ext.drew ?_ | refine Ext.drewN ?_ _ | refine Ext.alloc ?_ _ | refine Ext.trans ?_ (by assumption))))).mono ?_; rintro e w2 ⟨rfl, he2⟩) | (go_at_call 10; refine (sum_any _ l0 _ (s0'.ext (by repeat (first | exact Ext.refl _ | assumption | refine Ext.drew ?_ | refine Ext.drewN ?_ _ | refine Ext.alloc ?_ _ | refine Ext.trans ?_ (by assumption))))).mono ?_; rintro e w3 ⟨rfl, he3⟩) | (go_at_call 9; refine (awake_any _).mono ?_; rintro e w4 ⟨rfl, he4⟩)))
      go_wp2
      go_ret
      refine ⟨?_, (by repeat (first | exact Ext.refl _ | assumption | refine Ext.drew ?_ | refine Ext.drewN ?_ _ | refine Ext.alloc ?_ _ | refine Ext.trans ?_ (by assumption)))⟩
      simp

theorem be_ok : EncOk be 1 := ⟨fun _ => rfl, fun _ => by simp [oneCells, be, Value.oneCell'], by omega⟩
theorem slT_bytes : SlT Try.prog 22 5 1 1 := SlT.mk' (z := .int .u8 0) Try.underlying22 (by kernel_rfl) rfl
theorem many_bn (x : BitVec 8) : many (bn x : Int) = bn x := by unfold many; have := bn_lt x; omega
theorem many_neg (n : Int) (h : n ≤ 0) : many n = 0 := by unfold many; omega
theorem byte_zero : ∃ i z, Try.prog.info? 5 = some i ∧ i.zero = some z ∧ i.size = 1 ∧ i.bytes = 1 ∧ be 0#8 = z.cells := by
  obtain ⟨i, h1, h2, h3, h4⟩ := info_parts (P := Try.prog) (e := 5) (z := .int .u8 0) (size := 1) (bytes := 1) (by kernel_rfl)
  exact ⟨i, _, h1, h2, h3, h4, by simp [be, B8_zero, Value.cells]⟩

set_option maxHeartbeats 2000000 in
theorem crcZeros_walk (v0 : Value) (l0 : List (BitVec 8)) (x1 : BitVec 8) (w : World) (s0 : Sl be 1 w v0 l0) :
    Calls Try.prog 5 #[v0, .int .u8 (B8 x1)] w (Is w (.bool true)) := by
  have s0' := s0
  obtain ⟨A, cap, rfl, h0, h1, hA⟩ := s0
  unfold maxLen at h1
  by_cases h2 : (500 : Int) < l0.length
  · go_enter Try.func5, Try.ntmps5
    go_wp2_with (go_at_call 9; refine (awake_any _).mono ?_; rintro e w1 ⟨rfl, he1⟩)
    go_ret
    exact ⟨rfl, he1⟩
  · have hbn := bn_lt x1
    go_enter Try.func5, Try.ntmps5
    go_wp2_with (first
      | (at_builtin
         refine wpList_append_sl (by rfl) (.tmp 11) (.tmp 12) (by rfl) slT_bytes be_ok (by rfl) (by rfl) (Own.empty w.heap.size _ be 1 w (Nat.le_refl _)) (s0'.ext (by repeat (first | exact Ext.refl _ | assumption | refine Ext.drew ?_ | refine Ext.drewN ?_ _ | refine Ext.alloc ?_ _ | refine Ext.trans ?_ (by assumption)))) (by simp only [List.length_nil, maxLen]; omega) (by simp only [List.length_nil]; omega) (by simp) ?_
         intro v1 W1 hown1 hg1 hat1
         have he1 : Ext w W1 := ((Ext.refl w).alloc _).append hg1 (Own.empty w.heap.size _ be 1 w (Nat.le_refl _)) (Nat.le_refl _)
         simp only [List.nil_append] at hown1
         clear hg1 hat1)
      | (at_builtin
         obtain ⟨v2, W2, hr2, hown2, hg2⟩ := run_append_zeros W1 22 Try.underlying22 Try.underlying3 byte_zero be_ok hown1 (bn x1) (by simp only [maxLen]; omega) (by omega) he1.le
         refine Lib.wpList_append_run _ (by rfl) (.tmp 13) (.tmp 15) _ _ (by rfl) _ _ (by rfl) (by rfl) _ _ hr2 ?_
         have he2 : Ext w W2 := he1.append hg2 hown1 (Nat.le_refl _)
         clear hg2 hr2))
    have E1 : moreL (sumL l0) (List.replicate (many (bn x1 : Int)) 0#8) = sumL (l0 ++ List.replicate (bn x1) 0#8) := by rw [many_bn, sumL_joins]
    have E2 : moreL (sumL l0) (List.replicate (many 0) 0#8) = sumL l0 := by rw [many_neg 0 (by omega)]; exact moreL_nil _
    have E3 : moreL (sumL l0) (List.replicate (many (-1 - (bn x1 : Int))) 0#8) = sumL l0 := by rw [many_neg _ (by omega)]; exact moreL_nil _
    have E4 : moreL (sumL (l0 ++ List.replicate (bn x1) 0#8)) (List.replicate (many 3) 0#8) = moreL (sumL l0) (List.replicate (many ((bn x1 : Int) + 3)) 0#8) := by
      rw [show many 3 = 3 from by unfold many; rfl, show many ((bn x1 : Int) + 3) = bn x1 + 3 from by unfold many; omega, ← sumL_joins, moreL_append, List.replicate_append_replicate]
    refine (sum_any _ l0 _ (s0'.ext (by repeat (first | exact Ext.refl _ | assumption | refine Ext.drew ?_ | refine Ext.drewN ?_ _ | refine Ext.alloc ?_ _ | refine Ext.trans ?_ (by assumption))))).mono ?_
    rintro e w3 ⟨rfl, he3⟩
    go_wp2_with fail
    refine (zeros_any _ _ _).mono ?_
    rintro e w4 ⟨rfl, he4⟩
    rw [E1]
    go_wp2_with fail
    refine (sum_any _ _ _ ((hown2.sl be_ok).ext (show Ext W2 w4 from he3.trans he4))).mono ?_
    rintro e w5 ⟨rfl, he5⟩
    go_wp2_with fail
    refine (zeros_any _ _ _).mono ?_
    rintro e w6 ⟨rfl, he6⟩
    rw [E2]
    go_wp2_with fail
    refine (zeros_any _ _ _).mono ?_
    rintro e w7 ⟨rfl, he7⟩
    rw [E3]
    go_wp2_with fail
    refine (zeros_any _ _ _).mono ?_
    rintro e w8 ⟨rfl, he8⟩
    rw [E1]
    go_wp2_with fail
    refine (zeros_any _ _ _).mono ?_
    rintro e w9 ⟨rfl, he9⟩
    rw [E4]
    go_wp2_with fail
    refine (zeros_any _ _ _).mono ?_
    rintro e w10 ⟨rfl, he10⟩
    go_wp2_with fail
    refine (awake_any _).mono ?_
    rintro e w11 ⟨rfl, he11⟩
    go_wp2
    go_ret
    refine ⟨?_, (by repeat (first | exact Ext.refl _ | assumption | refine Ext.drew ?_ | refine Ext.drewN ?_ _ | refine Ext.alloc ?_ _ | refine Ext.trans ?_ (by assumption)))⟩
    simp

theorem sign_of {x : Int} {k : Nat} (h : x = k ∨ x = -(k : Int)) : x = k ∨ (x = -(k : Int) ∧ (0 : Int) < k) := by omega
theorem turned_bool (l : List (BitVec 8)) (k : Nat) (hk : k < l.length) (x : BitVec 8) : (decide (sumL l = sumL (l.set k (l[k] ^^^ x))) == (B8 x == 0)) = true := by
  have h : (B8 x == 0) = decide (x = 0#8) := by rw [← B8_zero]; exact B8_beq _ _
  rw [h, beq_iff_eq, decide_eq_decide]
  exact sumL_turned l k hk x

set_option maxHeartbeats 2000000 in
theorem crcTurned_walk (v0 : Value) (l0 : List (BitVec 8)) (n1 : Int) (x2 : BitVec 8) (w : World) (s0 : Sl be 1 w v0 l0) (b1 : -9223372036854775808 ≤ n1 ∧ n1 ≤ 9223372036854775807) :
    Calls Try.prog 6 #[v0, .int .i64 n1, .int .u8 (B8 x2)] w (Is w (.bool true)) := by
  have s0' := s0
  obtain ⟨A, cap, rfl, h0, h1, hA⟩ := s0
  unfold maxLen at h1
  by_cases h2 : (2000 : Int) < l0.length
  · go_enter Try.func6, Try.ntmps6
    go_wp2_with (go_at_call 9; refine (awake_any _).mono ?_; rintro e w1 ⟨rfl, he1⟩)
    go_ret
    exact ⟨rfl, he1⟩
  · by_cases h3 : l0.length = 0
    · have h3' : ((l0.length : Int) == 0) = true := by simp [h3]
      have H3 := Lib.hid h3
      clear h3
      go_enter Try.func6, Try.ntmps6
      go_wp2_with (go_at_call 9; refine (awake_any _).mono ?_; rintro e w1 ⟨rfl, he1⟩)
      go_ret
      exact ⟨rfl, he1⟩
    · have h3' : ((l0.length : Int) == 0) = false := beq_eq_false_iff_ne.2 (by omega)
      have h4 : ¬ (l0.length : Int) = 0 := by omega
      obtain ⟨k, hk, hk2⟩ := tmod_abs n1 l0.length (Nat.pos_of_ne_zero h3)
      have hk0 : (0 : Int) ≤ k := by omega
      have hk3 : (k : Int) < l0.length := by omega
      have hneg := sign_of hk2
      have HT := Lib.hid (turned_bool l0 k hk x2)
      clear hk2
      rcases hneg with hk2 | ⟨hk2, hkp⟩
      all_goals
        go_enter Try.func6, Try.ntmps6
        go_wp2_with (at_builtin; refine wpList_append_sl (by rfl) (.tmp 26) (.tmp 27) (by rfl) slT_bytes be_ok (by rfl) (by rfl) (Own.empty w.heap.size _ be 1 w (Nat.le_refl _)) (s0'.ext (by repeat (first | exact Ext.refl _ | assumption | refine Ext.drew ?_ | refine Ext.drewN ?_ _ | refine Ext.alloc ?_ _ | refine Ext.trans ?_ (by assumption)))) (by simp only [List.length_nil, maxLen]; omega) (by simp only [List.length_nil]; omega) (by simp) ?_; intro v1 W1 hown1 hg1 hat1; have he1 : Ext w W1 := ((Ext.refl w).alloc _).append hg1 (Own.empty w.heap.size _ be 1 w (Nat.le_refl _)) (Nat.le_refl _); simp only [List.nil_append] at hown1; clear hg1 hat1; obtain ⟨g, cap1, hv, hbg, hgl, hc1, hc2, hcc⟩ := hown1.open1 be_ok (by omega); subst hv; obtain ⟨hcell, hfr⟩ := hcc k hk _ rfl; have hown2 := Own.set be_ok hown1 rfl k hk (l0[k] ^^^ x2) (.int .u8 (B8 (l0[k] ^^^ x2))) rfl; clear hcc hown1)
        refine (sum_any _ l0 _ (s0'.ext (show Ext w _ from he1.setCell hbg _))).mono ?_
        rintro e w2 ⟨rfl, he2⟩
        go_wp2_with fail
        refine (sum_any _ _ _ ((hown2.sl be_ok).ext he2)).mono ?_
        rintro e w3 ⟨rfl, he3⟩
        have ht := HT.out
        go_wp2_with (go_at_call 9; refine (awake_any _).mono ?_; rintro e w4 ⟨rfl, he4⟩)
        go_ret
        refine ⟨by simp, (he1.setCell hbg _).trans (he2.trans (he3.trans he4))⟩

theorem W32_low (y : BitVec 32) : IntKind.u8.wrap (bits .and .u32 (W32 y) 255) = B8 (y.setWidth 8) := by
  rw [W32_def]
  have h := u32_and_nat y.toNat 255 y.isLt (by omega)
  rw [show ((255 : Nat) : Int) = 255 from rfl] at h
  rw [h, IntKind.wrap_u8', B8_def, BitVec.toNat_setWidth, show y.toNat &&& 255 = y.toNat % 256 from Nat.and_two_pow_sub_one_eq_mod _ 8]
  omega
theorem W32_shr16 (y : BitVec 32) : W32 y / (65536 : Int) = W32 (y >>> 16) := W32_shr y 16
theorem W32_shr24 (y : BitVec 32) : W32 y / (16777216 : Int) = W32 (y >>> 24) := W32_shr y 24
theorem W32_shr8' (y : BitVec 32) : W32 y / (256 : Int) = W32 (y >>> 8) := W32_shr y 8
theorem burst_bool (l : List (BitVec 8)) (k : Nat) (hk : k + 3 < l.length) (x : BitVec 32) : (decide (sumL l = sumL (turnK l k x 4)) == (W32 x == 0)) = true := by
  have h : (W32 x == 0) = decide (x = 0#32) := by rw [← W32_zero]; exact W32_beq _ _
  rw [h, beq_iff_eq, decide_eq_decide]
  exact sumL_burst l k hk x
section
attribute [local go_sem] W32_low W32_shr16 W32_shr24 W32_shr8'

set_option maxHeartbeats 4000000 in
theorem crcBurst_walk (v0 : Value) (l0 : List (BitVec 8)) (n1 : Int) (x2 : BitVec 32) (w : World) (s0 : Sl be 1 w v0 l0) (b1 : -9223372036854775808 ≤ n1 ∧ n1 ≤ 9223372036854775807) :
    Calls Try.prog 7 #[v0, .int .i64 n1, .int .u32 (W32 x2)] w (Is w (.bool true)) := by
  have s0' := s0
  obtain ⟨A, cap, rfl, h0, h1, hA⟩ := s0
  unfold maxLen at h1
  by_cases h2 : (2000 : Int) < l0.length
  · go_enter Try.func7, Try.ntmps7
    go_wp2_with (go_at_call 9; refine (awake_any _).mono ?_; rintro e w1 ⟨rfl, he1⟩)
    go_ret
    exact ⟨rfl, he1⟩
  · by_cases h3 : (l0.length : Int) < 4
    · go_enter Try.func7, Try.ntmps7
      go_wp2_with (go_at_call 9; refine (awake_any _).mono ?_; rintro e w1 ⟨rfl, he1⟩)
      go_ret
      exact ⟨rfl, he1⟩
    · obtain ⟨k, hk, hk2⟩ := tmod_abs n1 (l0.length - 3) (by omega)
      rw [show ((l0.length - 3 : Nat) : Int) = (l0.length : Int) - 3 from by omega] at hk2
      have hk0 : (0 : Int) ≤ k := by omega
      have hk3 : (k : Int) + 3 < l0.length := by omega
      have h5 : ¬ (l0.length : Int) - 3 = 0 := by omega
      have hneg := sign_of hk2
      have HT := Lib.hid (burst_bool l0 k (by omega) x2)
      clear hk2
      rcases hneg with hk2 | ⟨hk2, hkp⟩
      all_goals
        go_enter Try.func7, Try.ntmps7
        go_wp2_with (at_builtin; refine wpList_append_sl (by rfl) (.tmp 28) (.tmp 29) (by rfl) slT_bytes be_ok (by rfl) (by rfl) (Own.empty w.heap.size _ be 1 w (Nat.le_refl _)) (s0'.ext (by repeat (first | exact Ext.refl _ | assumption | refine Ext.drew ?_ | refine Ext.drewN ?_ _ | refine Ext.alloc ?_ _ | refine Ext.trans ?_ (by assumption)))) (by simp only [List.length_nil, maxLen]; omega) (by simp only [List.length_nil]; omega) (by simp) ?_; intro v1 W1 hown1 hg1 hat1; have he1 : Ext w W1 := ((Ext.refl w).alloc _).append hg1 (Own.empty w.heap.size _ be 1 w (Nat.le_refl _)) (Nat.le_refl _); simp only [List.nil_append] at hown1; clear hg1 hat1)
        obtain ⟨g, cap1, hv, hbg, hgl, hc1, hc2, -⟩ := hown1.open1 be_ok (by omega)
        subst hv
        have hc3 : (l0.length : Int) ≤ cap1 := by omega
        go_loopw [9] (fun i wr => ∃ j : Nat, j ≤ 4 ∧ i = .int .i64 j ∧ Own w.heap.size 5 be 1 wr (.slice (some ⟨g, 0, none⟩) l0.length cap1) (turnK l0 k x2 j) ∧ Ext w wr) (fun i _ => 4 - (intOf i).toNat)
        case atStart => exact ⟨0, by omega, rfl, hown1, he1⟩
        case round =>
          clear hown1 he1 hgl
          obtain ⟨j, hj, rfl, hown, he⟩ := hrel
          have hlen := turnK_length l0 k x2 j
          by_cases hlt : j < 4
          · obtain ⟨g', cap', hv, -, -, -, -, hcc⟩ := hown.open1 be_ok (by omega)
            rw [hlen] at hv
            injection hv with e1 _ e3
            injection e1 with e1
            injection e1 with e1
            subst e1 e3
            obtain ⟨hcell, hfr⟩ := hcc (k + j) (by omega) _ rfl
            have hset := Own.set be_ok hown (by rw [hlen]) (k + j) (by omega) ((turnK l0 k x2 j)[k + j]'(by omega) ^^^ byteK x2 j) (.int .u8 (B8 ((turnK l0 k x2 j)[k + j]'(by omega) ^^^ byteK x2 j))) rfl
            have hD : (turnK l0 k x2 j).getD (k + j) 0#8 = (turnK l0 k x2 j)[k + j]'(by omega) := by simp [List.getD_eq_getElem?_getD, show k + j < (turnK l0 k x2 j).length by omega]
            have HS : Own w.heap.size 5 be 1 (wr.setCell ⟨g, k + j, none⟩ (.int .u8 (B8 ((turnK l0 k x2 j)[k + j]'(by omega) ^^^ byteK x2 j)))) (.slice (some ⟨g, 0, none⟩) l0.length cap1) (turnK l0 k x2 (j + 1)) := by
              rw [turnK, hD]; exact hset
            have he2 := he.setCell (g := g) (i := k + j) hbg (.int .u8 (B8 ((turnK l0 k x2 j)[k + j]'(by omega) ^^^ byteK x2 j)))
            have hx : byteK x2 j = (x2 >>> (8 * j)).setWidth 8 := rfl
            generalize (turnK l0 k x2 j)[k + j]'(by omega) = bj at *
            rw [hx] at HS he2
            clear hset hcc hown he hD hx hlen
            obtain rfl | rfl | rfl | rfl : j = 0 ∨ j = 1 ∨ j = 2 ∨ j = 3 := by omega
            all_goals
              simp only [Nat.mul_zero, Nat.mul_one, BitVec.ushiftRight_zero, Nat.add_zero, Nat.reduceMul, Nat.zero_add, Nat.reduceAdd] at HS he2 hcell hfr
              go_wp2
              go_roundw
              case rel => exact ⟨_, by omega, by go_num, HS, he2⟩
              case measure => simp [intOf]
          · obtain rfl : j = 4 := by omega
            have hsl := hown.sl be_ok
            go_wp2_with fail
            refine (sum_any _ l0 _ (s0'.ext he)).mono ?_
            rintro e w2 ⟨rfl, he2⟩
            go_wp2_with fail
            refine (sum_any _ _ _ (hsl.ext he2)).mono ?_
            rintro e w3 ⟨rfl, he3⟩
            have ht := HT.out
            go_wp2_with (go_at_call 9; refine (awake_any _).mono ?_; rintro e w4 ⟨rfl, he4⟩)
            go_ret
            refine ⟨by simp, he.trans (he2.trans (he3.trans he4))⟩
end

theorem xorB_take (a b : List (BitVec 8)) (k : Nat) (ha : k < a.length) (hb : k < b.length) : xorB (a.take (k + 1)) (b.take (k + 1)) = xorB (a.take k) (b.take k) ++ [a[k] ^^^ b[k]] := by
  unfold xorB
  rw [List.take_succ_eq_append_getElem ha, List.take_succ_eq_append_getElem hb, List.zipWith_append (by simp; omega)]
  rfl
def xor3 (a b c : List (BitVec 8)) (k : Nat) : List (BitVec 8) := xorB (xorB (a.take k) (b.take k)) (c.take k)
theorem xor3_length (a b c : List (BitVec 8)) (k : Nat) (ha : k ≤ a.length) (hb : k ≤ b.length) (hc : k ≤ c.length) : (xor3 a b c k).length = k := by simp [xor3, xorB]; omega
theorem xor3_succ (a b c : List (BitVec 8)) (k : Nat) (ha : k < a.length) (hb : k < b.length) (hc : k < c.length) : xor3 a b c (k + 1) = xor3 a b c k ++ [a[k] ^^^ b[k] ^^^ c[k]] := by
  unfold xor3
  rw [xorB_take a b k ha hb, List.take_succ_eq_append_getElem hc]
  unfold xorB
  rw [List.zipWith_append (by simp; omega)]
  rfl
theorem xor3_sum (a b c : List (BitVec 8)) (k : Nat) (ha : k ≤ a.length) (hb : k ≤ b.length) (hc : k ≤ c.length) : sumL (xor3 a b c k) = sumL (a.take k) ^^^ sumL (b.take k) ^^^ sumL (c.take k) :=
  sumL_three _ _ _ (by simp; omega) (by simp; omega)
theorem run_min4 (a b c : Nat) (w : World) : (Builtin.min_ #[3, 3, 3, 3] 3 #[.int .i64 (a : Int), .int .i64 (b : Int), .int .i64 (c : Int), .int .i64 500]).run Try.prog w = .ok (.int .i64 ((min (min (min a b) c) 500 : Nat) : Int)) w := by
  have h : ∀ x y : Nat, (if (y : Int) < (x : Int) then (y : Int) else (x : Int)) = ((min x y : Nat) : Int) := by intro x y; split <;> omega
  have h5 := h (min (min a b) c) 500
  simp only [Builtin.min_, List.foldlM, Builtin.min2, Sem.run_bind, Sem.run_pure, Result.andThen_ok, h]
  rw [show ((500 : Nat) : Int) = 500 from rfl] at h5
  rw [h5]

set_option maxHeartbeats 4000000 in
theorem crcThree_walk (v0 : Value) (l0 : List (BitVec 8)) (v1 : Value) (l1 : List (BitVec 8)) (v2 : Value) (l2 : List (BitVec 8)) (w : World) (s0 : Sl be 1 w v0 l0) (s1 : Sl be 1 w v1 l1) (s2 : Sl be 1 w v2 l2) :
    Calls Try.prog 8 #[v0, v1, v2] w (Is w (.bool true)) := by
  have s0' := s0
  have s1' := s1
  have s2' := s2
  obtain ⟨A, cap, rfl, h0, h1, hA⟩ := s0
  obtain ⟨B, bap, rfl, k0, k1, hB⟩ := s1
  obtain ⟨C, cup, rfl, m0, m1, hC⟩ := s2
  unfold maxLen at h1 k1 m1
  have hmin := run_min4 l0.length l1.length l2.length
  generalize hN : min (min (min l0.length l1.length) l2.length) 500 = N at hmin
  have hN0 : N ≤ l0.length := by omega
  have hN1 : N ≤ l1.length := by omega
  have hN2 : N ≤ l2.length := by omega
  have hN5 : N ≤ 500 := by omega
  clear hN
  go_enter Try.func8, Try.ntmps8
  go_wp2_with fail
  clear hmin
  go_loopw [8, 9] (fun d i wr => ∃ k : Nat, k ≤ N ∧ i = .int .i64 k ∧ Own w.heap.size 5 be 1 wr d (xor3 l0 l1 l2 k) ∧ Ext w wr) (fun _ i _ => N - (intOf i).toNat)
  case atStart => exact ⟨0, by omega, rfl, by simpa [xor3, xorB] using Own.nil _ _ _ _ _, Ext.refl _⟩
  case round =>
    obtain ⟨k, hk, rfl, hown, he⟩ := hrel
    have hxl := xor3_length l0 l1 l2 k (by omega) (by omega) (by omega)
    by_cases hlt : k < N
    · obtain ⟨b0, o0, rfl, hb0, r0⟩ := hA (by omega)
      obtain ⟨b1, o1, rfl, hb1, r1⟩ := hB (by omega)
      obtain ⟨b2, o2, rfl, hb2, r2⟩ := hC (by omega)
      have c0 := SlAt.byte r0 (i := k) (by omega)
      have c1 := SlAt.byte r1 (i := k) (by omega)
      have c2 := SlAt.byte r2 (i := k) (by omega)
      clear r0 r1 r2 hA hB hC
      have d0 := he.cell c0
      have d1 := he.cell c1
      have d2 := he.cell c2
      have i0 : (0 : Int) ≤ (k : Int) := by omega
      have i1 : (k : Int) < l0.length := by omega
      have i2 : (k : Int) < l1.length := by omega
      have i3 : (k : Int) < l2.length := by omega
      have hs := xor3_succ l0 l1 l2 k (by omega) (by omega) (by omega)
      generalize l0[k]'(by omega) = x0 at *
      generalize l1[k]'(by omega) = x1 at *
      generalize l2[k]'(by omega) = x2 at *
      have HX := Lib.hid hxl
      have HS := Lib.hid hs
      clear hxl hs
      go_wp2
      go_region_held3 (fun w' => w'.cell? ⟨b0, o0 + k, none⟩ = some (.int .u8 (B8 x0)) ∧ w'.cell? ⟨b1, o1 + k, none⟩ = some (.int .u8 (B8 x1)) ∧ w'.cell? ⟨b2, o2 + k, none⟩ = some (.int .u8 (B8 x2)))
        ((exact ⟨Ext.cell (a := w) (by repeat (first | exact Ext.refl _ | assumption | refine Ext.drew ?_ | refine Ext.drewN ?_ _ | refine Ext.alloc ?_ _ | refine Ext.trans ?_ (by assumption))) c0, Ext.cell (a := w) (by repeat (first | exact Ext.refl _ | assumption | refine Ext.drew ?_ | refine Ext.drewN ?_ _ | refine Ext.alloc ?_ _ | refine Ext.trans ?_ (by assumption))) c1, Ext.cell (a := w) (by repeat (first | exact Ext.refl _ | assumption | refine Ext.drew ?_ | refine Ext.drewN ?_ _ | refine Ext.alloc ?_ _ | refine Ext.trans ?_ (by assumption))) c2⟩))
        ((refine step_append_sl (by rfl) (.tmp 22) (.tmp 37) (by rfl) slT_bytes be_ok (by rfl) (by rfl) (hown.drew.alloc _) (Sl.one be_ok wr.drew 5 (0, 0) (x0 ^^^ x1 ^^^ x2)) (by rw [HX.out]; simp only [List.length_singleton, maxLen]; omega) (by rw [HX.out]; simp only [List.length_singleton]; omega) (by have := he.le; simp; omega) ?_; intro d' w' hown' hg' hat'; have he' : Ext w w' := (he.drew.alloc _).append hg' (hown.drew.alloc _) (Nat.le_refl _)))
      go_wp2
      go_roundw
      case rel => exact ⟨k + 1, by omega, by go_num, by rw [HS.out]; exact hown', he'⟩
      case measure => simp [intOf]; omega
    · obtain rfl : k = N := by omega
      have j0 : (0 : Int) ≤ (k : Int) := by omega
      have j1 : (k : Int) ≤ cap := by omega
      have j2 : (k : Int) ≤ bap := by omega
      have j3 : (k : Int) ≤ cup := by omega
      have t0 := s0'.hi k hN0
      have t1 := s1'.hi k hN1
      have t2 := s2'.hi k hN2
      have hd := hown.sl be_ok
      have ht := xor3_sum l0 l1 l2 k hN0 hN1 hN2
      have HT := Lib.hid ht
      clear ht hxl hown
      go_wp2
      go_region_held3 (fun _ => True) (trivial) ((first | (go_at_call 10; refine (sum_any u8 _ _ (hd.ext (by repeat (first | exact Ext.refl _ | assumption | refine Ext.drew ?_ | refine Ext.drewN ?_ _ | refine Ext.alloc ?_ _ | refine Ext.trans ?_ (by assumption))))).mono ?_; rintro e w1 ⟨rfl, he1⟩) | (go_at_call 10; refine (sum_any (.slice A k cap) _ _ (t0.ext (by repeat (first | exact Ext.refl _ | assumption | refine Ext.drew ?_ | refine Ext.drewN ?_ _ | refine Ext.alloc ?_ _ | refine Ext.trans ?_ (by assumption))))).mono ?_; rintro e w2 ⟨rfl, he2⟩) | (go_at_call 10; refine (sum_any (.slice B k bap) _ _ (t1.ext (by repeat (first | exact Ext.refl _ | assumption | refine Ext.drew ?_ | refine Ext.drewN ?_ _ | refine Ext.alloc ?_ _ | refine Ext.trans ?_ (by assumption))))).mono ?_; rintro e w3 ⟨rfl, he3⟩) | (go_at_call 10; refine (sum_any (.slice C k cup) _ _ (t2.ext (by repeat (first | exact Ext.refl _ | assumption | refine Ext.drew ?_ | refine Ext.drewN ?_ _ | refine Ext.alloc ?_ _ | refine Ext.trans ?_ (by assumption))))).mono ?_; rintro e w4 ⟨rfl, he4⟩; have ht := HT.out) | (go_at_call 9; refine (awake_any _).mono ?_; rintro e w5 ⟨rfl, he5⟩)))
      go_wp2
      go_ret
      refine ⟨by simp, (by repeat (first | exact Ext.refl _ | assumption | refine Ext.drew ?_ | refine Ext.drewN ?_ _ | refine Ext.alloc ?_ _ | refine Ext.trans ?_ (by assumption)))⟩
end Go.Proofs.Ytdbiioihdkaejaa
