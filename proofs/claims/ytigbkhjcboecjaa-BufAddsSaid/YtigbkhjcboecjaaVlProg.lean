/-
  VlProg: what the program's functions of numbers and values compute: the plain law's words. Conditions: widths from 1 to 8, places within the row.
-/
import Derived.Test.YtigbkhjcboecjaaVlWalks
namespace Go.Proofs.Ytigbkhjcboecjaa
open Go Go.RowKit
set_option linter.unusedVariables false
set_option linter.unusedSimpArgs false

set_option maxRecDepth 100000 in
theorem may_any (n : Int) (w : World) : Calls Try.prog 75 #[.int .i64 n] w fun e w' => e = .returned (.bool (decide (1 ≤ n ∧ n ≤ 8))) ∧ w' = w := by
  by_cases h1 : 1 ≤ n
  · by_cases h8 : n ≤ 8
    · go_enter Try.func75, Try.ntmps75
      go_wp2
      go_ret
      exact ⟨by simp [h1, h8], rfl⟩
    · have h8' : 8 < n := by omega
      go_enter Try.func75, Try.ntmps75
      go_wp2
      go_ret
      exact ⟨by simp [h1, h8], rfl⟩
  · have h1' : n < 1 := by omega
    go_enter Try.func75, Try.ntmps75
    go_wp2
    go_ret
    exact ⟨by simp [h1]; omega, rfl⟩

set_option maxRecDepth 100000 in
set_option maxHeartbeats 2000000 in
/-- the program's Put -/
theorem put_any (v : Value) (xs : List (BitVec 8)) (n : BitVec 64) (wd : Nat) (w : World) (h : Sl be 1 w v xs) (hx : xs.length ≤ 100000000000000) (h1 : 1 ≤ wd) (h8 : wd ≤ 8) :
    Calls Try.prog 73 #[v, .int .u64 (D64 n), .int .i64 (wd : Int)] w (Ret w fun u w' => Own w.heap.size 5 be 1 w' u (xs ++ leBytes n wd)) := by
  have hmay : decide (1 ≤ (wd : Int) ∧ (wd : Int) ≤ 8) = true := decide_eq_true ⟨by omega, by omega⟩
  go_enter Try.func73, Try.ntmps73
  go_wp2_with (first
    | (at_builtin; refine wpList_append_sl (by rfl) (.const (.slice none 0 0)) (.tmp 8) (by rfl) slT_bytes be_ok (by rfl) (by rfl) (Own.nil w.heap.size 5 be 1 w) h (by simp only [List.length_nil, maxLen]; omega) (by simp only [List.length_nil]; omega) (by simp) ?_; intro v1 W1 hown1 hg1 hat1; have he1 : Ext w W1 := (Ext.refl w).append hg1 (Own.nil w.heap.size 5 be 1 w) (Nat.le_refl _); simp only [List.nil_append] at hown1; clear hg1 hat1)
    | (go_at_call 75; refine (may_any _ _).mono ?_; rintro e w1 ⟨rfl, rfl⟩))
  clear hmay
  go_loopw [1, 7, 15] (fun nn o i wr => ∃ k : Nat, k ≤ wd ∧ i = .int .i64 k ∧ nn = .int .u64 (D64 (n >>> (8 * k))) ∧ Own w.heap.size 5 be 1 wr o (xs ++ leBytes n k) ∧ Ext w wr) (fun _ _ i _ => wd - (intOf i).toNat)
  case atStart => exact ⟨0, by omega, rfl, rfl, by simpa [leBytes] using hown1, he1⟩
  case round =>
    obtain ⟨k, hk, rfl, rfl, hown, he⟩ := hrel
    have hl := leBytes_length n k
    have HL := Lib.hid hl
    clear hl
    by_cases hlt : k < wd
    · have HS := Lib.hid (leBytes_snoc n k)
      have HN := Lib.hid (show n >>> (8 * k) >>> 8 = n >>> (8 * (k + 1)) from by rw [← BitVec.shiftRight_add]; rfl)
      go_wp2_with (at_builtin; refine wpList_append_sl (by rfl) (.tmp 17) (.tmp 20) (by rfl) slT_bytes be_ok (by rfl) (by rfl) (hown.alloc _) (Sl.one be_ok wr 5 (0, 0) ((n >>> (8 * k)).setWidth 8)) (by simp only [List.length_append, HL.out, List.length_singleton, maxLen]; omega) (by simp only [List.length_append, HL.out, List.length_singleton]; omega) (by have := he.le; simp; omega) ?_; intro v2 W2 hown2 hg2 hat2; have he2 : Ext w W2 := (he.alloc _).append hg2 (hown.alloc _) (Nat.le_refl _); clear hg2 hat2)
      go_roundw
      case rel => exact ⟨k + 1, by omega, by go_num, by rw [HN.out], by rw [HS.out, ← List.append_assoc]; exact hown2, he2⟩
      case measure => simp [intOf]; omega
    · obtain rfl : k = wd := by omega
      go_wp2
      go_ret
      exact ⟨_, rfl, hown, he⟩

set_option maxRecDepth 100000 in
set_option maxHeartbeats 4000000 in
/-- the program's Num -/
theorem num_any (v : Value) (xs : List (BitVec 8)) (at_ wd : Nat) (w : World) (h : Sl be 1 w v xs) (h1 : 1 ≤ wd) (h8 : wd ≤ 8) (ha : at_ + wd ≤ xs.length) :
    Calls Try.prog 74 #[v, .int .i64 (at_ : Int), .int .i64 (wd : Int)] w fun e w' => e = .returned (.tuple #[.int .u64 (D64 (leNum (seg xs at_ wd))), .bool true]) ∧ w' = w := by
  obtain ⟨A, cap, rfl, h0, hc, hA⟩ := h
  obtain ⟨b, off, rfl, hb, hr⟩ := hA (by omega)
  unfold maxLen at hc
  have hl : (seg xs at_ wd).length = wd := by unfold seg; simp; omega
  have hmay : decide (1 ≤ (wd : Int) ∧ (wd : Int) ≤ 8) = true := decide_eq_true ⟨by omega, by omega⟩
  have i3 : ¬ (at_ : Int) < 0 := by omega
  have i4 : ¬ (xs.length : Int) - wd < at_ := by omega
  have HR := Lib.hid hr
  have HL := Lib.hid hl
  clear hr hA hl
  go_enter Try.func74, Try.ntmps74
  go_wp2_with (go_at_call 75; refine (may_any _ _).mono ?_; rintro e w1 ⟨rfl, rfl⟩)
  clear hmay
  go_loop [8, 9] (fun nn i => ∃ k : Nat, k ≤ wd ∧ i = .int .i64 ((k : Int) - 1) ∧ nn = .int .u64 (D64 (leNum ((seg xs at_ wd).drop k)))) (fun _ i => ((intOf i) + 1).toNat)
  case atStart => exact ⟨wd, by omega, rfl, by rw [List.drop_eq_nil_of_le (by rw [HL.out]; omega)]; simp only [leNum]; rw [D64_zero]⟩
  case round =>
    obtain ⟨k, hk, rfl, rfl⟩ := hrel
    by_cases hlt : 0 < k
    · obtain ⟨j, rfl⟩ : ∃ j, k = j + 1 := ⟨k - 1, by omega⟩
      have hc1 := SlAt.byte' HR.out (i := at_ + j) (by omega)
      have HS := Lib.hid (seg_step xs at_ wd j ha (by omega))
      have e1 : ((j + 1 : Nat) : Int) - 1 = (j : Int) := by omega
      rw [e1]
      have i5 : (0 : Int) ≤ (at_ : Int) + j := by omega
      have i6 : (at_ : Int) + j < xs.length := by omega
      have e2 : off + ((at_ : Int) + j).toNat = off + (at_ + j) := by omega
      have i7 : (0 : Int) ≤ (j : Int) := by omega
      clear e1
      go_wp2
      go_round
      case rel => exact ⟨j, by omega, by go_num, by rw [HS.out]⟩
      case measure => simp [intOf]
    · obtain rfl : k = 0 := by omega
      go_wp2
      exact bodyPost_ret (results_2 rfl res_tmp res_tmp) rfl ⟨rfl, rfl⟩

set_option maxRecDepth 100000 in
set_option maxHeartbeats 1000000 in
theorem number_any (v : Vl) (w : World) : Calls Try.prog 70 #[.agg v.arr] w (Is w (.int .u64 (D64 (numOf v)))) := by
  have hs := sl_of_bArr (g := w.heap.size) (o := 1) (w := w.alloc (.cells v.arr 34)) (b := v.b) (by rw [row_alloc_at _ _ _ _ _ _ _ rfl]; exact Vl.row_b v) 16 16 (by omega) (by omega) (by unfold maxLen; omega)
  have HS := Lib.hid hs
  clear hs
  go_enter Try.func70, Try.ntmps70
  go_wp2_with fail
  refine (num_any _ _ 0 8 _ HS.out (by omega) (by omega) (by simp)).mono ?_
  rintro e w1 ⟨rfl, rfl⟩
  go_wp2
  go_ret
  exact ⟨by simp [numOf, seg, List.take_take], (by repeat (first | exact Ext.refl _ | assumption | refine Ext.drew ?_ | refine Ext.drewN ?_ _ | refine Ext.alloc ?_ _ | refine Ext.trans ?_ (by assumption)))⟩

set_option maxRecDepth 100000 in
set_option maxHeartbeats 1000000 in
theorem vlof_any (v : Value) (xs : List (BitVec 8)) (w : World) (h : Sl be 1 w v xs) (h16 : xs.length ≤ 16) : Calls Try.prog 67 #[v] w (Is w (.agg (mkVl xs).arr)) := by
  obtain ⟨A, cap, rfl, h0, hc, hA⟩ := h
  unfold maxLen at hc
  by_cases hpos : 0 < xs.length
  · obtain ⟨b, off, rfl, hb, hr⟩ := SlAt.row be_ok hA hpos
    rw [Nat.mul_one] at hr
    have hmin : min xs.length 16 = xs.length := by omega
    have hmin2 : min 16 xs.length = xs.length := by omega
    go_enter Try.func67, Try.ntmps67
    go_wp2
    exact bodyPost_ret (results_1 rfl (res_cell (cs := (mkVl xs).arr) Try.underlying34 rfl Vl.size' rfl (by simp [go_sem, over_zero, mkVl]))) rfl ⟨rfl, (by repeat (first | exact Ext.refl _ | assumption | refine Ext.drew ?_ | refine Ext.drewN ?_ _ | refine Ext.alloc ?_ _ | refine Ext.trans ?_ (by assumption)))⟩
  · obtain rfl : xs = [] := List.eq_nil_of_length_eq_zero (by omega)
    go_enter Try.func67, Try.ntmps67
    go_wp2
    exact bodyPost_ret (results_1 rfl (res_cell (cs := (mkVl []).arr) Try.underlying34 rfl Vl.size' rfl (by rw [row_alloc_past _ _ _ _ _ (by simp), row_alloc_at _ _ _ _ _ _ _ rfl]; rw [show mkVl [] = Vl.zero from rfl]; exact Vl.row _))) rfl ⟨rfl, (by repeat (first | exact Ext.refl _ | assumption | refine Ext.drew ?_ | refine Ext.drewN ?_ _ | refine Ext.alloc ?_ _ | refine Ext.trans ?_ (by assumption)))⟩

set_option maxRecDepth 100000 in
set_option maxHeartbeats 1000000 in
theorem from_any (n : BitVec 64) (w : World) : Calls Try.prog 69 #[.int .u64 (D64 n)] w (Is w (.agg (fromN n).arr)) := by
  have hbx : Box (w.alloc (.cells Vl.zero.arr 34)) w.heap.size Vl.zero.arr 34 := (by repeat (first | with_reducible assumption | with_reducible exact Box.new (by simp) | with_reducible refine Box.past ?_ _ | with_reducible refine Box.drew ?_ | with_reducible refine Box.drewN ?_ _ | refine Box.ext ?_ (by with_reducible assumption)))
  have H := Lib.hid hbx
  clear hbx
  have hl := Lib.hid (leBytes_length n 8)
  go_enter Try.func69, Try.ntmps69
  go_wp2_with fail
  refine (put_any _ [] _ 8 _ (Sl.nil _ _ _) (by simp) (by omega) (by omega)).mono ?_
  rintro e w1 ⟨u, rfl, hown, he1⟩
  rw [List.nil_append] at hown
  have hs := Lib.hid (hown.sl be_ok)
  clear hown
  go_wp2_with fail
  refine (vlof_any _ _ _ hs.out (by rw [hl.out]; omega)).mono ?_
  rintro e w2 ⟨rfl, he2⟩
  have hb2 := H.out.ext (he1.trans he2)
  have hrow := (hb2.row 0 17).trans (Vl.row _)
  have hfree := hb2.free
  go_wp2
  exact bodyPost_ret (results_1 rfl (res_cell (cs := (fromN n).arr) Try.underlying34 rfl Vl.size' rfl (by rw [(hb2.put 0 _).row, Vl.put]; exact Vl.row _))) rfl ⟨rfl, Ext.putRow (show Ext w w2 from (by repeat (first | exact Ext.refl _ | assumption | refine Ext.drew ?_ | refine Ext.drewN ?_ _ | refine Ext.alloc ?_ _ | refine Ext.trans ?_ (by assumption)))) (by omega)⟩

set_option maxRecDepth 100000 in
set_option maxHeartbeats 1000000 in
theorem plus_any (v : Vl) (n : BitVec 64) (w : World) : Calls Try.prog 62 #[.agg v.arr, .int .u64 (D64 n)] w (Is w (.agg (vplus v n).arr)) := by
  have hbx : Box ((w.alloc (.cells v.arr 34)).alloc (.cells Vl.zero.arr 34)) (w.heap.size + 1) Vl.zero.arr 34 := (by repeat (first | with_reducible assumption | with_reducible exact Box.new (by simp) | with_reducible refine Box.past ?_ _ | with_reducible refine Box.drew ?_ | with_reducible refine Box.drewN ?_ _ | refine Box.ext ?_ (by with_reducible assumption)))
  have H := Lib.hid hbx
  clear hbx
  go_enter Try.func62, Try.ntmps62
  go_wp2_with fail
  refine (number_any _ _).mono ?_
  rintro e w1 ⟨rfl, he1⟩
  go_wp2_with fail
  refine (from_any _ _).mono ?_
  rintro e w2 ⟨rfl, he2⟩
  have hb2 := H.out.ext (he1.trans he2)
  have hrow := (hb2.row 0 17).trans (Vl.row _)
  have hfree := hb2.free
  go_wp2
  exact bodyPost_ret (results_1 rfl (res_cell (cs := (vplus v n).arr) Try.underlying34 rfl Vl.size' rfl (by rw [(hb2.put 0 _).row, Vl.put]; exact Vl.row _))) rfl ⟨rfl, Ext.putRow (show Ext w w2 from (by repeat (first | exact Ext.refl _ | assumption | refine Ext.drew ?_ | refine Ext.drewN ?_ _ | refine Ext.alloc ?_ _ | refine Ext.trans ?_ (by assumption)))) (by omega)⟩

theorem Vl.ok_false (k : Vl) : k.ok = false ↔ k.n < 0 ∨ 16 < k.n ∨ trunc k.b k.n.toNat ≠ k.b := by
  rw [← Bool.not_eq_true, Vl.ok_iff]
  constructor
  · intro h
    by_cases h1 : k.n < 0
    · exact .inl h1
    · by_cases h2 : 16 < k.n
      · exact .inr (.inl h2)
      · exact .inr (.inr fun h3 => h ⟨by omega, by omega, h3⟩)
  · rintro (h | h | h) ⟨h1, h2, h3⟩
    · omega
    · omega
    · exact h h3
theorem mkVl_take (b : Vector (BitVec 8) 16) (n : Nat) (h : n ≤ 16) : mkVl (b.toList.take n) = ⟨n, trunc b n⟩ := by
  unfold mkVl
  rw [← over_zero, over_zero_cut]
  congr 1
  simp; omega

set_option maxRecDepth 100000 in
set_option maxHeartbeats 4000000 in
theorem vlcheck_any (k : Vl) (w : World) : Calls Try.prog 58 #[.agg k.arr] w (Is w (.bool k.ok)) := by
  have hbx : Box (w.alloc (.cells k.arr 34)) w.heap.size k.arr 34 := (by repeat (first | with_reducible assumption | with_reducible exact Box.new (by simp) | with_reducible refine Box.past ?_ _ | with_reducible refine Box.drew ?_ | with_reducible refine Box.drewN ?_ _ | refine Box.ext ?_ (by with_reducible assumption)))
  have H := Lib.hid hbx
  clear hbx
  have hC : (w.alloc (.cells k.arr 34)).cell? ⟨w.heap.size, 0, none⟩ = some (.int .i64 k.n) := H.out.cell 0 (Vl.arr_n _)
  by_cases h0 : k.n < 0
  · have hok : k.ok = false := (Vl.ok_false k).2 (.inl h0)
    have hd : decide (0 ≤ k.n) = false := decide_eq_false (by omega)
    go_enter Try.func58, Try.ntmps58
    go_wp2
    go_quiet (fail)
    go_wp2
    go_ret
    exact ⟨by simp [hok], (by repeat (first | exact Ext.refl _ | assumption | refine Ext.drew ?_ | refine Ext.drewN ?_ _ | refine Ext.alloc ?_ _ | refine Ext.trans ?_ (by assumption)))⟩
  have h0' : 0 ≤ k.n := by omega
  by_cases h8 : 16 < k.n
  · have hok : k.ok = false := (Vl.ok_false k).2 (.inr (.inl h8))
    have hd : decide (k.n ≤ 16) = false := decide_eq_false (by omega)
    go_enter Try.func58, Try.ntmps58
    go_wp2
    go_quiet (fail)
    go_wp2
    go_ret
    exact ⟨by simp [hok], (by repeat (first | exact Ext.refl _ | assumption | refine Ext.drew ?_ | refine Ext.drewN ?_ _ | refine Ext.alloc ?_ _ | refine Ext.trans ?_ (by assumption)))⟩
  have h8' : k.n ≤ 16 := by omega
  clear hC
  obtain ⟨kn, kb⟩ := k
  obtain ⟨n, rfl⟩ : ∃ n : Nat, kn = (n : Int) := ⟨kn.toNat, by simp at h0'; omega⟩
  have hn8 : n ≤ 16 := by simp at h8'; omega
  have hn8' : (n : Int) ≤ 16 := by omega
  have hk : (Vl.mk (n : Int) kb).ok = decide (mkVl (kb.toList.take n) = Vl.mk n kb) := by
    rw [Bool.eq_iff_iff, Vl.ok_iff, mkVl_take _ _ hn8]; simp [hn8']
  have HK := Lib.hid hk
  clear hk
  have hA : row? (w.alloc (.cells (Vl.mk n kb).arr 34)) w.heap.size 0 17 = some (Vl.mk n kb).arr := by rw [H.out.row]; exact Vl.row _
  have hC : (w.alloc (.cells (Vl.mk n kb).arr 34)).cell? ⟨w.heap.size, 0, none⟩ = some (.int .i64 n) := H.out.cell 0 (Vl.arr_n _)
  have hB : row? (w.alloc (.cells (Vl.mk n kb).arr 34)) w.heap.size 1 16 = some (bArr kb) := by rw [H.out.row]; exact Vl.row_b _
  have HB := Lib.hid hB
  clear hB
  go_enter Try.func58, Try.ntmps58
  go_wp2
  go_region_held3 (fun W => row? W w.heap.size 0 17 = some (Vl.mk n kb).arr ∧ W.cell? ⟨w.heap.size, 0, none⟩ = some (.int .i64 n))
    (exact ⟨Ext.row (by repeat (first | exact Ext.refl _ | assumption | refine Ext.drew ?_ | refine Ext.drewN ?_ _ | refine Ext.alloc ?_ _ | refine Ext.trans ?_ (by assumption))) hA, Ext.cell (by repeat (first | exact Ext.refl _ | assumption | refine Ext.drew ?_ | refine Ext.drewN ?_ _ | refine Ext.alloc ?_ _ | refine Ext.trans ?_ (by assumption))) hC⟩)
    ((go_at_call 67; refine (vlof_any _ _ _ (sl_of_bArr (Ext.row (by repeat (first | exact Ext.refl _ | assumption | refine Ext.drew ?_ | refine Ext.drewN ?_ _ | refine Ext.alloc ?_ _ | refine Ext.trans ?_ (by assumption))) HB.out) n 16 hn8 hn8 (by unfold maxLen; omega)) (by simp; omega)).mono ?_; rintro e w1 ⟨rfl, he1⟩))
  go_wp2
  go_ret
  exact ⟨by rw [HK.out]; rfl, (by repeat (first | exact Ext.refl _ | assumption | refine Ext.drew ?_ | refine Ext.drewN ?_ _ | refine Ext.alloc ?_ _ | refine Ext.trans ?_ (by assumption)))⟩

set_option maxHeartbeats 1000000 in
/-- the document's Check -/
theorem refvlcheck_any (k : Vl) (w : World) : Calls Try.prog 61 #[.agg k.arr] w (Is w (.bool k.ok)) := by
  by_cases h0 : k.n < 0
  · have hok : k.ok = false := (Vl.ok_false k).2 (.inl h0)
    go_enter Try.func61, Try.ntmps61
    go_wp2
    go_ret
    exact ⟨by simp [hok], (by repeat (first | exact Ext.refl _ | assumption | refine Ext.drew ?_ | refine Ext.drewN ?_ _ | refine Ext.alloc ?_ _ | refine Ext.trans ?_ (by assumption)))⟩
  have h0' : 0 ≤ k.n := by omega
  by_cases h8 : 16 < k.n
  · have hok : k.ok = false := (Vl.ok_false k).2 (.inr (.inl h8))
    go_enter Try.func61, Try.ntmps61
    go_wp2
    go_ret
    exact ⟨by simp [hok], (by repeat (first | exact Ext.refl _ | assumption | refine Ext.drew ?_ | refine Ext.drewN ?_ _ | refine Ext.alloc ?_ _ | refine Ext.trans ?_ (by assumption)))⟩
  have h8' : k.n ≤ 16 := by omega
  obtain ⟨n, hn⟩ : ∃ n : Nat, k.n = (n : Int) := ⟨k.n.toNat, by omega⟩
  have H0 := Lib.hid hn
  have hn8 : n ≤ 16 := by omega
  clear hn
  go_enter Try.func61, Try.ntmps61
  go_wp2
  go_loop [3] (fun x => ∃ i : Nat, n ≤ i ∧ i ≤ 16 ∧ x = .int .i64 i ∧ ∀ j (h : j < 16), n ≤ j → j < i → k.b[j] = 0#8) (fun x => 16 - (intOf x).toNat)
  case atStart => exact ⟨n, by omega, by omega, by rw [H0.out], fun j _ h1 h2 => absurd h1 (by omega)⟩
  case round =>
    obtain ⟨i, h1, h2, rfl, hz⟩ := hrel
    have HZ := Lib.hid hz
    clear hz
    have H0' := H0.out
    have hni : k.n ≤ i := by omega
    clear H0'
    by_cases hlt : i < 16
    · by_cases hb : k.b[i] = 0#8
      · go_wp2
        go_round
        case rel =>
          refine ⟨i + 1, by omega, by omega, by go_num, fun j hj h3 h4 => ?_⟩
          by_cases h5 : j = i
          · subst h5; exact hb
          · exact HZ.out j hj h3 (by omega)
        case measure => simp [intOf]; omega
      · have hok : k.ok = false := (Vl.ok_false k).2 (.inr (.inr fun h => hb ((trunc_iff _ _).1 h i hlt (by omega))))
        go_wp2
        go_ret
        exact ⟨by simp [hok], (by repeat (first | exact Ext.refl _ | assumption | refine Ext.drew ?_ | refine Ext.drewN ?_ _ | refine Ext.alloc ?_ _ | refine Ext.trans ?_ (by assumption)))⟩
    · obtain rfl : i = 16 := by omega
      have hok : k.ok = true := (Vl.ok_iff k).2 ⟨h0', h8', (trunc_iff _ _).2 fun j hj h3 => HZ.out j hj (by rw [H0.out] at h3; omega) hj⟩
      go_wp2
      go_ret
      exact ⟨by simp [hok], (by repeat (first | exact Ext.refl _ | assumption | refine Ext.drew ?_ | refine Ext.drewN ?_ _ | refine Ext.alloc ?_ _ | refine Ext.trans ?_ (by assumption)))⟩

end Go.Proofs.Ytigbkhjcboecjaa
