/-
  VlWalks: what the functions of values compute, the document's and the program's: the plain law's words. No conditions.
-/
import Derived.Test.YtigbkhjcboecjaaNumWalks
import Derived.Test.YtigbkhjcboecjaaKeyWalks
namespace Go.Proofs.Ytigbkhjcboecjaa
open Go Go.RowKit
set_option linter.unusedVariables false
set_option linter.unusedSimpArgs false

theorem over_take {m : Nat} (xs : List (BitVec 8)) (k : Nat) (hk : k < xs.length) : (over (Vector.replicate m 0#8) (xs.take k)).setIfInBounds k xs[k] = over (Vector.replicate m 0#8) (xs.take (k + 1)) := by
  apply Vector.ext
  intro i hi
  rw [over_get, Vector.getElem_setIfInBounds, over_get, List.getElem?_take, List.getElem?_take]
  by_cases h1 : k = i
  · subst h1; simp [hk]
  · by_cases h2 : i < k
    · simp [h1, h2, show i < k + 1 from by omega]
    · simp [h1, h2, show ¬ i < k + 1 from by omega]
theorem over_nil {m : Nat} (b : Vector (BitVec 8) m) : over b [] = b := by
  apply Vector.ext
  intro i hi
  rw [over_get]; simp
theorem bytes_at (xs : List (BitVec 8)) (k : Nat) (h : k < (bytesOf xs).size) : (((bytesOf xs)[k]'h).toNat : Int) = B8 (xs[k]'(by rw [bytesOf_size] at h; exact h)) := by
  have hk : k < xs.length := by rw [bytesOf_size] at h; exact h
  have h0 : (bytesOf xs).data[k]? = some (UInt8.ofBitVec (xs[k]'hk)) := by
    have e : (bytesOf xs).data = (xs.map UInt8.ofBitVec).toArray := by rw [bytesOf_def]
    rw [e]; simp [hk]
  rw [B8_def]
  congr 1
  have h2 : (bytesOf xs)[k]'h = (bytesOf xs).data[k]'h := rfl
  rw [h2, (Array.getElem?_eq_some_iff.1 h0).2]
  rfl
attribute [go_sem] bytes_at
set_option maxRecDepth 100000 in
set_option maxHeartbeats 1000000 in
/-- the document's Of -/
theorem refvlof_any (xs : List (BitVec 8)) (w : World) : Calls Try.prog 54 #[.string (bytesOf xs)] w (Is w (.tuple (if xs.length ≤ 16 then #[.agg (mkVl xs).arr, .int .i64 0] else #[.agg Vl.zero.arr, .int .i64 2]))) := by
  have hsz := bytesOf_size xs
  by_cases h16 : 16 < xs.length
  · have h16' : (16 : Int) < xs.length := by omega
    rw [if_neg (by omega)]
    go_enter Try.func54, Try.ntmps54
    go_wp2
    exact bodyPost_ret (results_2 rfl (res_cell Try.underlying34 rfl Vl.size' rfl (by simp [go_sem])) res_tmp) rfl ⟨rfl, (by repeat (first | exact Ext.refl _ | assumption | refine Ext.drew ?_ | refine Ext.drewN ?_ _ | refine Ext.alloc ?_ _ | refine Ext.trans ?_ (by assumption)))⟩
  · have h16' : ¬ (16 : Int) < xs.length := by omega
    rw [if_pos (by omega)]
    go_enter Try.func54, Try.ntmps54
    go_wp2
    go_loopw [5] (fun i wr => ∃ k : Nat, k ≤ xs.length ∧ i = .int .i64 k ∧ wr = (w.alloc (.cells Vl.zero.arr 34)).alloc (.cells (Vl.mk xs.length (over (Vector.replicate 16 0#8) (xs.take k))).arr 34)) (fun i _ => xs.length - (intOf i).toNat)
    case atStart => exact ⟨0, by omega, rfl, by rw [List.take_zero, over_nil]⟩
    case round =>
      obtain ⟨k, hk, rfl, rfl⟩ := hrel
      by_cases hlt : k < xs.length
      · have hk16 : k < 16 := by omega
        have HO := Lib.hid (over_take (m := 16) xs k hlt)
        go_wp2
        go_roundw
        case rel => exact ⟨k + 1, by omega, by go_num, by rw [HO.out]⟩
        case measure => simp [intOf]; omega
      · obtain rfl : k = xs.length := by omega
        go_wp2
        exact bodyPost_ret (results_2 rfl (res_cell (cs := (mkVl xs).arr) Try.underlying34 rfl Vl.size' rfl (by simp [go_sem, over_zero, mkVl])) res_tmp) rfl ⟨rfl, (by repeat (first | exact Ext.refl _ | assumption | refine Ext.drew ?_ | refine Ext.drewN ?_ _ | refine Ext.alloc ?_ _ | refine Ext.trans ?_ (by assumption)))⟩
set_option maxRecDepth 100000 in
set_option maxHeartbeats 1000000 in
/-- the document's Of -/
theorem refkeyof_any (xs : List (BitVec 8)) (w : World) : Calls Try.prog 38 #[.string (bytesOf xs)] w (Is w (.tuple (if xs.length ≤ 8 then #[.agg (mkKey xs).arr, .int .i64 0] else #[.agg Key.zero.arr, .int .i64 2]))) := by
  have hsz := bytesOf_size xs
  by_cases h16 : 8 < xs.length
  · have h16' : (8 : Int) < xs.length := by omega
    rw [if_neg (by omega)]
    go_enter Try.func38, Try.ntmps38
    go_wp2
    exact bodyPost_ret (results_2 rfl (res_cell Try.underlying27 rfl Key.size' rfl (by simp [go_sem])) res_tmp) rfl ⟨rfl, (by repeat (first | exact Ext.refl _ | assumption | refine Ext.drew ?_ | refine Ext.drewN ?_ _ | refine Ext.alloc ?_ _ | refine Ext.trans ?_ (by assumption)))⟩
  · have h16' : ¬ (8 : Int) < xs.length := by omega
    rw [if_pos (by omega)]
    go_enter Try.func38, Try.ntmps38
    go_wp2
    go_loopw [5] (fun i wr => ∃ k : Nat, k ≤ xs.length ∧ i = .int .i64 k ∧ wr = (w.alloc (.cells Key.zero.arr 27)).alloc (.cells (Key.mk xs.length (over (Vector.replicate 8 0#8) (xs.take k))).arr 27)) (fun i _ => xs.length - (intOf i).toNat)
    case atStart => exact ⟨0, by omega, rfl, by rw [List.take_zero, over_nil]⟩
    case round =>
      obtain ⟨k, hk, rfl, rfl⟩ := hrel
      by_cases hlt : k < xs.length
      · have hk16 : k < 8 := by omega
        have HO := Lib.hid (over_take (m := 8) xs k hlt)
        go_wp2
        go_roundw
        case rel => exact ⟨k + 1, by omega, by go_num, by rw [HO.out]⟩
        case measure => simp [intOf]; omega
      · obtain rfl : k = xs.length := by omega
        go_wp2
        exact bodyPost_ret (results_2 rfl (res_cell (cs := (mkKey xs).arr) Try.underlying27 rfl Key.size' rfl (by simp [go_sem, over_zero, mkKey])) res_tmp) rfl ⟨rfl, (by repeat (first | exact Ext.refl _ | assumption | refine Ext.drew ?_ | refine Ext.drewN ?_ _ | refine Ext.alloc ?_ _ | refine Ext.trans ?_ (by assumption)))⟩

/-! ### numbers of values -/
set_option maxRecDepth 100000 in
set_option maxHeartbeats 1000000 in
/-- the document's Number -/
theorem refnumber_any (v : Vl) (w : World) : Calls Try.prog 63 #[.agg v.arr] w (Is w (.int .u64 (D64 (numOf v)))) := by
  have hs := sl_of_bArr (g := w.heap.size) (o := 1) (w := w.alloc (.cells v.arr 34)) (b := v.b) (by rw [row_alloc_at _ _ _ _ _ _ _ rfl]; exact Vl.row_b v) 8 16 (by omega) (by omega) (by unfold maxLen; omega)
  have HS := Lib.hid hs
  clear hs
  go_enter Try.func63, Try.ntmps63
  go_wp2_with fail
  refine (refnum_any _ _ 0 8 _ HS.out (by omega) (by omega) (by simp)).mono ?_
  rintro e w1 ⟨rfl, rfl⟩
  go_wp2
  go_ret
  exact ⟨by simp [numOf, seg, List.take_take], (by repeat (first | exact Ext.refl _ | assumption | refine Ext.drew ?_ | refine Ext.drewN ?_ _ | refine Ext.alloc ?_ _ | refine Ext.trans ?_ (by assumption)))⟩

set_option maxRecDepth 100000 in
set_option maxHeartbeats 1000000 in
/-- the document's From -/
theorem reffrom_any (n : BitVec 64) (w : World) : Calls Try.prog 50 #[.int .u64 (D64 n)] w (Is w (.agg (fromN n).arr)) := by
  go_enter Try.func50, Try.ntmps50
  go_wp2_with fail
  refine (refput_any _ [] _ 8 _ (Sl.nil _ _ _) (by simp) (by omega) (by omega)).mono ?_
  rintro e w1 ⟨u, rfl, hown, he1⟩
  have hl := leBytes_length n 8
  rw [List.nil_append] at hown
  have hle := he1.le
  obtain ⟨g, cap, rfl, hbg, hg1, hc1, hc2, hcc⟩ := hown.open1 be_ok (by rw [hl]; omega)
  have hbox : Box w1 (w.heap.size + 1) (Vl.mk 8 (Vector.replicate 16 0#8)).arr 34 := (by repeat (first | with_reducible assumption | with_reducible exact Box.new (by simp) | with_reducible refine Box.past ?_ _ | with_reducible refine Box.drew ?_ | with_reducible refine Box.drewN ?_ _ | refine Box.ext ?_ (by with_reducible assumption)))
  have hbox2 : Box w1 w.heap.size Vl.zero.arr 34 := (by repeat (first | with_reducible assumption | with_reducible exact Box.new (by simp) | with_reducible refine Box.past ?_ _ | with_reducible refine Box.drew ?_ | with_reducible refine Box.drewN ?_ _ | refine Box.ext ?_ (by with_reducible assumption)))
  have hgne : g ≠ w.heap.size + 1 := by simp at hbg; omega
  have HB := Lib.hid hbg
  have HC := Lib.hid hcc
  have HL := Lib.hid hl
  clear hown hbg hcc hle hl
  go_wp2
  go_loopw [5] (fun i wr => ∃ k : Nat, k ≤ 8 ∧ i = .int .i64 k ∧ Box wr (w.heap.size + 1) (Vl.mk 8 (over (Vector.replicate 16 0#8) ((leBytes n 8).take k))).arr 34 ∧ w1.grownBy wr (some (w.heap.size + 1))) (fun i _ => 8 - (intOf i).toNat)
  case atStart => exact ⟨0, by omega, rfl, by rw [List.take_zero, over_nil]; exact hbox, World.grownBy.refl _ _⟩
  case round =>
    obtain ⟨k, hk, rfl, hb, hgr⟩ := hrel
    have HBX := Lib.hid hb
    have hg2 : g < wr.heap.size := Nat.lt_of_lt_of_le hg1 hgr.size
    have hw2 : w.heap.size + 1 < wr.heap.size := hb.lt
    clear hb
    by_cases hlt : k < 8
    · have hlt' : (k : Int) < 8 := by omega
      have hkl : k < (leBytes n 8).length := by rw [HL.out]; exact hlt
      have hc := (HC.out k hkl _ rfl).1
      have hcw : wr.cell? ⟨g, k, none⟩ = some (.int .u8 (B8 (leBytes n 8)[k])) := hgr.cell hc (by simp; omega)
      have hcv : wr.cell? ⟨w.heap.size + 1, 1 + k, none⟩ = _ := HBX.out.cell (1 + k) (Vl.arr_b _ k (by omega))
      have hfr := HBX.out.frozen (1 + k)
      have HO := Lib.hid (over_take (m := 16) (leBytes n 8) k hkl)
      clear hc
      generalize hx : (leBytes n 8)[k] = x at *
      have HX := Lib.hid hx
      clear hx
      have HL2 := Lib.hid (show (leBytes n 8).length = 8 from HL.out)
      rw [HL.out] at hc1
      have hcap : (k : Int) < cap := by omega
      go_wp2
      go_roundw
      case rel =>
        have hst := HBX.out.set (1 + k) (.int .u8 (B8 x))
        rw [Vl.setb_b _ k (by omega)] at hst
        exact ⟨k + 1, by omega, by go_num, by rw [← HO.out]; exact hst, gset hgr _ _⟩
      case measure => simp [intOf]; omega
    · obtain rfl : k = 8 := by omega
      have hrow := (HBX.out.row 0 17).trans (Vl.row _)
      have hbx2 := hbox2.grown hgr (by simp)
      have hrow2 := (hbx2.row 0 17).trans (Vl.row _)
      have hfree2 := hbx2.free
      have hf : (Vl.mk 8 (over (Vector.replicate 16 0#8) ((leBytes n 8).take 8))).arr = (fromN n).arr := by
        have hl := HL.out
        unfold fromN mkVl
        rw [List.take_of_length_le (by omega), over_zero, hl]; rfl
      have hew : Ext w wr := (show Ext w w1 from (by repeat (first | exact Ext.refl _ | assumption | refine Ext.drew ?_ | refine Ext.drewN ?_ _ | refine Ext.alloc ?_ _ | refine Ext.trans ?_ (by assumption)))).grown hgr (fun k hk => by injection hk with hk; omega)
      rw [hf] at hrow
      clear hf
      go_wp2
      exact bodyPost_ret (results_1 rfl (res_cell (cs := (fromN n).arr) Try.underlying34 rfl Vl.size' rfl (by rw [(hbx2.put 0 _).row, Vl.put, Vl.row]))) rfl ⟨rfl, hew.putRow (Nat.le_refl _)⟩

set_option maxRecDepth 100000 in
set_option maxHeartbeats 1000000 in
/-- the document's Plus -/
theorem refplus_any (v : Vl) (n : BitVec 64) (w : World) : Calls Try.prog 49 #[.agg v.arr, .int .u64 (D64 n)] w (Is w (.agg (vplus v n).arr)) := by
  have hbx : Box ((w.alloc (.cells v.arr 34)).alloc (.cells Vl.zero.arr 34)) (w.heap.size + 1) Vl.zero.arr 34 := (by repeat (first | with_reducible assumption | with_reducible exact Box.new (by simp) | with_reducible refine Box.past ?_ _ | with_reducible refine Box.drew ?_ | with_reducible refine Box.drewN ?_ _ | refine Box.ext ?_ (by with_reducible assumption)))
  have H := Lib.hid hbx
  clear hbx
  go_enter Try.func49, Try.ntmps49
  go_wp2_with fail
  refine (refnumber_any _ _).mono ?_
  rintro e w1 ⟨rfl, he1⟩
  go_wp2_with fail
  refine (reffrom_any _ _).mono ?_
  rintro e w2 ⟨rfl, he2⟩
  have hb2 := H.out.ext (he1.trans he2)
  have hrow := (hb2.row 0 17).trans (Vl.row _)
  have hfree := hb2.free
  go_wp2
  exact bodyPost_ret (results_1 rfl (res_cell (cs := (vplus v n).arr) Try.underlying34 rfl Vl.size' rfl (by rw [(hb2.put 0 _).row, Vl.put]; exact Vl.row _))) rfl ⟨rfl, Ext.putRow (show Ext w w2 from (by repeat (first | exact Ext.refl _ | assumption | refine Ext.drew ?_ | refine Ext.drewN ?_ _ | refine Ext.alloc ?_ _ | refine Ext.trans ?_ (by assumption)))) (by omega)⟩
end Go.Proofs.Ytigbkhjcboecjaa
