/-
  Types: slices by their types: what an append asks, what a cut leaves, what a composite leaves.
-/
import Derived.Test.YtigbkhjcboecjaaStructs
namespace Go.Proofs.Ytigbkhjcboecjaa
open Go Go.RowKit
set_option linter.unusedVariables false
set_option linter.unusedSimpArgs false

/-! ### []uint8 -/
theorem slT_bytes : SlT Try.prog 61 5 1 1 := SlT.mk' (z := .int .u8 0) Try.underlying61 (by kernel_rfl) rfl
theorem inf_bytes : (Try.prog.info? 5).map (·.size) = some 1 := by kernel_rfl
theorem sl_bytes (x : Value) (lo hi mx : Option Value) : Instr.sliceAt 61 x lo hi mx = slRow 61 x lo hi mx := slRow_eq _ _ _ _ _
theorem sl_bytes_hi (A : Option Addr) (len cap : Nat) (k : Int) (h0 : 0 ≤ k) (h1 : k ≤ cap) (w : World) : (slRow 61 (.slice A len cap) none (some (.int .i64 k)) none).run Try.prog w = .ok (.slice A k.toNat cap) w := run_sl_hi Try.underlying61 inf_bytes A len cap k h0 h1 w
theorem sl_bytes_lo (A : Option Addr) (len cap : Nat) (k : Int) (h0 : 0 ≤ k) (h1 : k ≤ len) (w : World) : (slRow 61 (.slice A len cap) (some (.int .i64 k)) none none).run Try.prog w = .ok (.slice (cutA cap k.toNat 1 A) (len - k.toNat) (cap - k.toNat)) w := run_sl_lo Try.underlying61 inf_bytes A len cap k h0 h1 w
theorem sl_bytes_lohi (A : Option Addr) (len cap : Nat) (i j : Int) (h0 : 0 ≤ i) (h1 : i ≤ j) (h2 : j ≤ cap) (w : World) : (slRow 61 (.slice A len cap) (some (.int .i64 i)) (some (.int .i64 j)) none).run Try.prog w = .ok (.slice (cutA cap i.toNat 1 A) (j.toNat - i.toNat) (cap - i.toNat)) w := run_sl_lohi Try.underlying61 inf_bytes A len cap i j h0 h1 h2 w
theorem sl_bytes_3 (A : Option Addr) (len cap : Nat) (i j m : Int) (h0 : 0 ≤ i) (h1 : i ≤ j) (h2 : j ≤ m) (h5 : m ≤ cap) (w : World) : (slRow 61 (.slice A len cap) (some (.int .i64 i)) (some (.int .i64 j)) (some (.int .i64 m))).run Try.prog w = .ok (.slice (cutA m.toNat i.toNat 1 A) (j.toNat - i.toNat) (m.toNat - i.toNat)) w := run_sl_3 Try.underlying61 inf_bytes A len cap i j m h0 h1 h2 h5 w
theorem sl_bytes_hi3 (A : Option Addr) (len cap : Nat) (j m : Int) (h1 : 0 ≤ j) (h2 : j ≤ m) (h5 : m ≤ cap) (w : World) : (slRow 61 (.slice A len cap) none (some (.int .i64 j)) (some (.int .i64 m))).run Try.prog w = .ok (.slice A j.toNat m.toNat) w := run_sl_hi3 Try.underlying61 inf_bytes A len cap j m h1 h2 h5 w
theorem sl_bytes_all (A : Option Addr) (len cap : Nat) (w : World) : (slRow 61 (.slice A len cap) none none none).run Try.prog w = .ok (.slice A len cap) w := run_sl_all Try.underlying61 inf_bytes A len cap w
attribute [go_sem ↓] sl_bytes
attribute [go_sem] sl_bytes_hi sl_bytes_lo sl_bytes_lohi sl_bytes_3 sl_bytes_hi3 sl_bytes_all
theorem cp_bytes_eq (ty : TypeId) (vs : Array Value) : Builtin.copy_ #[61, 61] ty vs = cpRow #[61, 61] ty vs := cpRow_eq _ _ _
theorem cp_bytes (w : World) (g o dLen dCap b off sLen sCap : Nat) (ty : TypeId) :
    (cpRow #[61, 61] ty #[.slice (some ⟨g, o, none⟩) dLen dCap, .slice (some ⟨b, off, none⟩) sLen sCap]).run Try.prog w =
      onCp (min sLen dLen) (row? w b off (min sLen dLen * 1)) ((row? w g o (min sLen dLen * 1)).isSome && free? w g) w g o ((cpRow' #[61, 61] ty #[.slice (some ⟨g, o, none⟩) dLen dCap, .slice (some ⟨b, off, none⟩) sLen sCap]).run Try.prog w) :=
  run_cpRow_on (P := Try.prog) (sT := 61) (ty := ty) (elem := 5) (n := 1) Try.underlying61 inf_bytes w g o dLen dCap b off sLen sCap
theorem cp_bytes_none (w : World) (d : Addr) (dLen dCap : Nat) (A : Option Addr) (c : Nat) (ty : TypeId) :
    (cpRow #[61, 61] ty #[.slice (some d) dLen dCap, .slice A 0 c]).run Try.prog w = .ok (.int .i64 0) w :=
  run_cpRow_none (P := Try.prog) (sT := 61) (ty := ty) (elem := 5) (n := 1) Try.underlying61 inf_bytes w d dLen dCap A c
attribute [go_sem ↓] cp_bytes_eq
attribute [go_sem] cp_bytes_none cp_bytes
/-! ### []int -/
theorem slT_ints : SlT Try.prog 22 3 1 8 := SlT.mk' (z := .int .i64 0) Try.underlying22 (by kernel_rfl) rfl
theorem inf_ints : (Try.prog.info? 3).map (·.size) = some 1 := by kernel_rfl
theorem sl_ints (x : Value) (lo hi mx : Option Value) : Instr.sliceAt 22 x lo hi mx = slRow 22 x lo hi mx := slRow_eq _ _ _ _ _
theorem sl_ints_hi (A : Option Addr) (len cap : Nat) (k : Int) (h0 : 0 ≤ k) (h1 : k ≤ cap) (w : World) : (slRow 22 (.slice A len cap) none (some (.int .i64 k)) none).run Try.prog w = .ok (.slice A k.toNat cap) w := run_sl_hi Try.underlying22 inf_ints A len cap k h0 h1 w
theorem sl_ints_lo (A : Option Addr) (len cap : Nat) (k : Int) (h0 : 0 ≤ k) (h1 : k ≤ len) (w : World) : (slRow 22 (.slice A len cap) (some (.int .i64 k)) none none).run Try.prog w = .ok (.slice (cutA cap k.toNat 1 A) (len - k.toNat) (cap - k.toNat)) w := run_sl_lo Try.underlying22 inf_ints A len cap k h0 h1 w
theorem sl_ints_lohi (A : Option Addr) (len cap : Nat) (i j : Int) (h0 : 0 ≤ i) (h1 : i ≤ j) (h2 : j ≤ cap) (w : World) : (slRow 22 (.slice A len cap) (some (.int .i64 i)) (some (.int .i64 j)) none).run Try.prog w = .ok (.slice (cutA cap i.toNat 1 A) (j.toNat - i.toNat) (cap - i.toNat)) w := run_sl_lohi Try.underlying22 inf_ints A len cap i j h0 h1 h2 w
theorem sl_ints_3 (A : Option Addr) (len cap : Nat) (i j m : Int) (h0 : 0 ≤ i) (h1 : i ≤ j) (h2 : j ≤ m) (h5 : m ≤ cap) (w : World) : (slRow 22 (.slice A len cap) (some (.int .i64 i)) (some (.int .i64 j)) (some (.int .i64 m))).run Try.prog w = .ok (.slice (cutA m.toNat i.toNat 1 A) (j.toNat - i.toNat) (m.toNat - i.toNat)) w := run_sl_3 Try.underlying22 inf_ints A len cap i j m h0 h1 h2 h5 w
theorem sl_ints_hi3 (A : Option Addr) (len cap : Nat) (j m : Int) (h1 : 0 ≤ j) (h2 : j ≤ m) (h5 : m ≤ cap) (w : World) : (slRow 22 (.slice A len cap) none (some (.int .i64 j)) (some (.int .i64 m))).run Try.prog w = .ok (.slice A j.toNat m.toNat) w := run_sl_hi3 Try.underlying22 inf_ints A len cap j m h1 h2 h5 w
theorem sl_ints_all (A : Option Addr) (len cap : Nat) (w : World) : (slRow 22 (.slice A len cap) none none none).run Try.prog w = .ok (.slice A len cap) w := run_sl_all Try.underlying22 inf_ints A len cap w
attribute [go_sem ↓] sl_ints
attribute [go_sem] sl_ints_hi sl_ints_lo sl_ints_lohi sl_ints_3 sl_ints_hi3 sl_ints_all
theorem cp_ints_eq (ty : TypeId) (vs : Array Value) : Builtin.copy_ #[22, 22] ty vs = cpRow #[22, 22] ty vs := cpRow_eq _ _ _
theorem cp_ints (w : World) (g o dLen dCap b off sLen sCap : Nat) (ty : TypeId) :
    (cpRow #[22, 22] ty #[.slice (some ⟨g, o, none⟩) dLen dCap, .slice (some ⟨b, off, none⟩) sLen sCap]).run Try.prog w =
      onCp (min sLen dLen) (row? w b off (min sLen dLen * 1)) ((row? w g o (min sLen dLen * 1)).isSome && free? w g) w g o ((cpRow' #[22, 22] ty #[.slice (some ⟨g, o, none⟩) dLen dCap, .slice (some ⟨b, off, none⟩) sLen sCap]).run Try.prog w) :=
  run_cpRow_on (P := Try.prog) (sT := 22) (ty := ty) (elem := 3) (n := 1) Try.underlying22 inf_ints w g o dLen dCap b off sLen sCap
theorem cp_ints_none (w : World) (d : Addr) (dLen dCap : Nat) (A : Option Addr) (c : Nat) (ty : TypeId) :
    (cpRow #[22, 22] ty #[.slice (some d) dLen dCap, .slice A 0 c]).run Try.prog w = .ok (.int .i64 0) w :=
  run_cpRow_none (P := Try.prog) (sT := 22) (ty := ty) (elem := 3) (n := 1) Try.underlying22 inf_ints w d dLen dCap A c
attribute [go_sem ↓] cp_ints_eq
attribute [go_sem] cp_ints_none cp_ints
/-! ### []api.Key -/
theorem slT_keys : SlT Try.prog 29 27 9 16 := SlT.mk' (z := .agg Key.zero.arr) Try.underlying29 (by rw [Key.zero_arr]; kernel_rfl) (Key.arr_size Key.zero)
theorem inf_keys : (Try.prog.info? 27).map (·.size) = some 9 := by kernel_rfl
theorem sl_keys (x : Value) (lo hi mx : Option Value) : Instr.sliceAt 29 x lo hi mx = slRow 29 x lo hi mx := slRow_eq _ _ _ _ _
theorem sl_keys_hi (A : Option Addr) (len cap : Nat) (k : Int) (h0 : 0 ≤ k) (h1 : k ≤ cap) (w : World) : (slRow 29 (.slice A len cap) none (some (.int .i64 k)) none).run Try.prog w = .ok (.slice A k.toNat cap) w := run_sl_hi Try.underlying29 inf_keys A len cap k h0 h1 w
theorem sl_keys_lo (A : Option Addr) (len cap : Nat) (k : Int) (h0 : 0 ≤ k) (h1 : k ≤ len) (w : World) : (slRow 29 (.slice A len cap) (some (.int .i64 k)) none none).run Try.prog w = .ok (.slice (cutA cap k.toNat 9 A) (len - k.toNat) (cap - k.toNat)) w := run_sl_lo Try.underlying29 inf_keys A len cap k h0 h1 w
theorem sl_keys_lohi (A : Option Addr) (len cap : Nat) (i j : Int) (h0 : 0 ≤ i) (h1 : i ≤ j) (h2 : j ≤ cap) (w : World) : (slRow 29 (.slice A len cap) (some (.int .i64 i)) (some (.int .i64 j)) none).run Try.prog w = .ok (.slice (cutA cap i.toNat 9 A) (j.toNat - i.toNat) (cap - i.toNat)) w := run_sl_lohi Try.underlying29 inf_keys A len cap i j h0 h1 h2 w
theorem sl_keys_3 (A : Option Addr) (len cap : Nat) (i j m : Int) (h0 : 0 ≤ i) (h1 : i ≤ j) (h2 : j ≤ m) (h5 : m ≤ cap) (w : World) : (slRow 29 (.slice A len cap) (some (.int .i64 i)) (some (.int .i64 j)) (some (.int .i64 m))).run Try.prog w = .ok (.slice (cutA m.toNat i.toNat 9 A) (j.toNat - i.toNat) (m.toNat - i.toNat)) w := run_sl_3 Try.underlying29 inf_keys A len cap i j m h0 h1 h2 h5 w
theorem sl_keys_hi3 (A : Option Addr) (len cap : Nat) (j m : Int) (h1 : 0 ≤ j) (h2 : j ≤ m) (h5 : m ≤ cap) (w : World) : (slRow 29 (.slice A len cap) none (some (.int .i64 j)) (some (.int .i64 m))).run Try.prog w = .ok (.slice A j.toNat m.toNat) w := run_sl_hi3 Try.underlying29 inf_keys A len cap j m h1 h2 h5 w
theorem sl_keys_all (A : Option Addr) (len cap : Nat) (w : World) : (slRow 29 (.slice A len cap) none none none).run Try.prog w = .ok (.slice A len cap) w := run_sl_all Try.underlying29 inf_keys A len cap w
attribute [go_sem ↓] sl_keys
attribute [go_sem] sl_keys_hi sl_keys_lo sl_keys_lohi sl_keys_3 sl_keys_hi3 sl_keys_all
theorem cp_keys_eq (ty : TypeId) (vs : Array Value) : Builtin.copy_ #[29, 29] ty vs = cpRow #[29, 29] ty vs := cpRow_eq _ _ _
theorem cp_keys (w : World) (g o dLen dCap b off sLen sCap : Nat) (ty : TypeId) :
    (cpRow #[29, 29] ty #[.slice (some ⟨g, o, none⟩) dLen dCap, .slice (some ⟨b, off, none⟩) sLen sCap]).run Try.prog w =
      onCp (min sLen dLen) (row? w b off (min sLen dLen * 9)) ((row? w g o (min sLen dLen * 9)).isSome && free? w g) w g o ((cpRow' #[29, 29] ty #[.slice (some ⟨g, o, none⟩) dLen dCap, .slice (some ⟨b, off, none⟩) sLen sCap]).run Try.prog w) :=
  run_cpRow_on (P := Try.prog) (sT := 29) (ty := ty) (elem := 27) (n := 9) Try.underlying29 inf_keys w g o dLen dCap b off sLen sCap
theorem cp_keys_none (w : World) (d : Addr) (dLen dCap : Nat) (A : Option Addr) (c : Nat) (ty : TypeId) :
    (cpRow #[29, 29] ty #[.slice (some d) dLen dCap, .slice A 0 c]).run Try.prog w = .ok (.int .i64 0) w :=
  run_cpRow_none (P := Try.prog) (sT := 29) (ty := ty) (elem := 27) (n := 9) Try.underlying29 inf_keys w d dLen dCap A c
attribute [go_sem ↓] cp_keys_eq
attribute [go_sem] cp_keys_none cp_keys
theorem bs_keys (m : Nat) (ps : Array (Nat × Value)) : Instr.buildSlice 29 (m + 1) ps = bsRow 29 (m + 1) ps := bsRow_eq _ _ _
theorem bs_keys_1 (x : Key) (w : World) : (bsRow 29 1 #[(0, .agg (Key.arr x))]).run Try.prog w = .ok (.slice (some ⟨w.heap.size, 0, none⟩) 1 1) (w.alloc (.cells (Key.arr x) 27)) := by
  have := run_bsRow_list slT_keys Key.enc [x] (by simp) (by simp) _ rfl w
  rw [flat_single] at this
  exact this
theorem bs_keys_2 (x y : Key) (w : World) : (bsRow 29 2 #[(0, .agg (Key.arr x)), (1, .agg (Key.arr y))]).run Try.prog w = .ok (.slice (some ⟨w.heap.size, 0, none⟩) 2 2) (w.alloc (.cells (flat Key.arr [x, y]).toArray 27)) :=
  run_bsRow_list slT_keys Key.enc [x, y] (by simp) (by simp) _ rfl w
attribute [go_sem ↓] bs_keys
attribute [go_sem] bs_keys_1 bs_keys_2
/-! ### []api.Entry -/
theorem slT_entries : SlT Try.prog 54 75 26 40 := SlT.mk' (z := .agg Ent.zero.arr) Try.underlying54 (by rw [Ent.zero_arr]; kernel_rfl) (Ent.arr_size Ent.zero)
theorem inf_entries : (Try.prog.info? 75).map (·.size) = some 26 := by kernel_rfl
theorem sl_entries (x : Value) (lo hi mx : Option Value) : Instr.sliceAt 54 x lo hi mx = slRow 54 x lo hi mx := slRow_eq _ _ _ _ _
theorem sl_entries_hi (A : Option Addr) (len cap : Nat) (k : Int) (h0 : 0 ≤ k) (h1 : k ≤ cap) (w : World) : (slRow 54 (.slice A len cap) none (some (.int .i64 k)) none).run Try.prog w = .ok (.slice A k.toNat cap) w := run_sl_hi Try.underlying54 inf_entries A len cap k h0 h1 w
theorem sl_entries_lo (A : Option Addr) (len cap : Nat) (k : Int) (h0 : 0 ≤ k) (h1 : k ≤ len) (w : World) : (slRow 54 (.slice A len cap) (some (.int .i64 k)) none none).run Try.prog w = .ok (.slice (cutA cap k.toNat 26 A) (len - k.toNat) (cap - k.toNat)) w := run_sl_lo Try.underlying54 inf_entries A len cap k h0 h1 w
theorem sl_entries_lohi (A : Option Addr) (len cap : Nat) (i j : Int) (h0 : 0 ≤ i) (h1 : i ≤ j) (h2 : j ≤ cap) (w : World) : (slRow 54 (.slice A len cap) (some (.int .i64 i)) (some (.int .i64 j)) none).run Try.prog w = .ok (.slice (cutA cap i.toNat 26 A) (j.toNat - i.toNat) (cap - i.toNat)) w := run_sl_lohi Try.underlying54 inf_entries A len cap i j h0 h1 h2 w
theorem sl_entries_3 (A : Option Addr) (len cap : Nat) (i j m : Int) (h0 : 0 ≤ i) (h1 : i ≤ j) (h2 : j ≤ m) (h5 : m ≤ cap) (w : World) : (slRow 54 (.slice A len cap) (some (.int .i64 i)) (some (.int .i64 j)) (some (.int .i64 m))).run Try.prog w = .ok (.slice (cutA m.toNat i.toNat 26 A) (j.toNat - i.toNat) (m.toNat - i.toNat)) w := run_sl_3 Try.underlying54 inf_entries A len cap i j m h0 h1 h2 h5 w
theorem sl_entries_hi3 (A : Option Addr) (len cap : Nat) (j m : Int) (h1 : 0 ≤ j) (h2 : j ≤ m) (h5 : m ≤ cap) (w : World) : (slRow 54 (.slice A len cap) none (some (.int .i64 j)) (some (.int .i64 m))).run Try.prog w = .ok (.slice A j.toNat m.toNat) w := run_sl_hi3 Try.underlying54 inf_entries A len cap j m h1 h2 h5 w
theorem sl_entries_all (A : Option Addr) (len cap : Nat) (w : World) : (slRow 54 (.slice A len cap) none none none).run Try.prog w = .ok (.slice A len cap) w := run_sl_all Try.underlying54 inf_entries A len cap w
attribute [go_sem ↓] sl_entries
attribute [go_sem] sl_entries_hi sl_entries_lo sl_entries_lohi sl_entries_3 sl_entries_hi3 sl_entries_all
theorem cp_entries_eq (ty : TypeId) (vs : Array Value) : Builtin.copy_ #[54, 54] ty vs = cpRow #[54, 54] ty vs := cpRow_eq _ _ _
theorem cp_entries (w : World) (g o dLen dCap b off sLen sCap : Nat) (ty : TypeId) :
    (cpRow #[54, 54] ty #[.slice (some ⟨g, o, none⟩) dLen dCap, .slice (some ⟨b, off, none⟩) sLen sCap]).run Try.prog w =
      onCp (min sLen dLen) (row? w b off (min sLen dLen * 26)) ((row? w g o (min sLen dLen * 26)).isSome && free? w g) w g o ((cpRow' #[54, 54] ty #[.slice (some ⟨g, o, none⟩) dLen dCap, .slice (some ⟨b, off, none⟩) sLen sCap]).run Try.prog w) :=
  run_cpRow_on (P := Try.prog) (sT := 54) (ty := ty) (elem := 75) (n := 26) Try.underlying54 inf_entries w g o dLen dCap b off sLen sCap
theorem cp_entries_none (w : World) (d : Addr) (dLen dCap : Nat) (A : Option Addr) (c : Nat) (ty : TypeId) :
    (cpRow #[54, 54] ty #[.slice (some d) dLen dCap, .slice A 0 c]).run Try.prog w = .ok (.int .i64 0) w :=
  run_cpRow_none (P := Try.prog) (sT := 54) (ty := ty) (elem := 75) (n := 26) Try.underlying54 inf_entries w d dLen dCap A c
attribute [go_sem ↓] cp_entries_eq
attribute [go_sem] cp_entries_none cp_entries
theorem bs_entries (m : Nat) (ps : Array (Nat × Value)) : Instr.buildSlice 54 (m + 1) ps = bsRow 54 (m + 1) ps := bsRow_eq _ _ _
theorem bs_entries_1 (x : Ent) (w : World) : (bsRow 54 1 #[(0, .agg (Ent.arr x))]).run Try.prog w = .ok (.slice (some ⟨w.heap.size, 0, none⟩) 1 1) (w.alloc (.cells (Ent.arr x) 75)) := by
  have := run_bsRow_list slT_entries Ent.enc [x] (by simp) (by simp) _ rfl w
  rw [flat_single] at this
  exact this
theorem bs_entries_2 (x y : Ent) (w : World) : (bsRow 54 2 #[(0, .agg (Ent.arr x)), (1, .agg (Ent.arr y))]).run Try.prog w = .ok (.slice (some ⟨w.heap.size, 0, none⟩) 2 2) (w.alloc (.cells (flat Ent.arr [x, y]).toArray 75)) :=
  run_bsRow_list slT_entries Ent.enc [x, y] (by simp) (by simp) _ rfl w
attribute [go_sem ↓] bs_entries
attribute [go_sem] bs_entries_1 bs_entries_2
/-! ### []api.Msg -/
theorem slT_msgs : SlT Try.prog 23 36 29 64 := SlT.mk' (z := .agg Msg.zero.arr) Try.underlying23 (by rw [Msg.zero_arr]; kernel_rfl) (Msg.arr_size Msg.zero)
theorem inf_msgs : (Try.prog.info? 36).map (·.size) = some 29 := by kernel_rfl
theorem sl_msgs (x : Value) (lo hi mx : Option Value) : Instr.sliceAt 23 x lo hi mx = slRow 23 x lo hi mx := slRow_eq _ _ _ _ _
theorem sl_msgs_hi (A : Option Addr) (len cap : Nat) (k : Int) (h0 : 0 ≤ k) (h1 : k ≤ cap) (w : World) : (slRow 23 (.slice A len cap) none (some (.int .i64 k)) none).run Try.prog w = .ok (.slice A k.toNat cap) w := run_sl_hi Try.underlying23 inf_msgs A len cap k h0 h1 w
theorem sl_msgs_lo (A : Option Addr) (len cap : Nat) (k : Int) (h0 : 0 ≤ k) (h1 : k ≤ len) (w : World) : (slRow 23 (.slice A len cap) (some (.int .i64 k)) none none).run Try.prog w = .ok (.slice (cutA cap k.toNat 29 A) (len - k.toNat) (cap - k.toNat)) w := run_sl_lo Try.underlying23 inf_msgs A len cap k h0 h1 w
theorem sl_msgs_lohi (A : Option Addr) (len cap : Nat) (i j : Int) (h0 : 0 ≤ i) (h1 : i ≤ j) (h2 : j ≤ cap) (w : World) : (slRow 23 (.slice A len cap) (some (.int .i64 i)) (some (.int .i64 j)) none).run Try.prog w = .ok (.slice (cutA cap i.toNat 29 A) (j.toNat - i.toNat) (cap - i.toNat)) w := run_sl_lohi Try.underlying23 inf_msgs A len cap i j h0 h1 h2 w
theorem sl_msgs_3 (A : Option Addr) (len cap : Nat) (i j m : Int) (h0 : 0 ≤ i) (h1 : i ≤ j) (h2 : j ≤ m) (h5 : m ≤ cap) (w : World) : (slRow 23 (.slice A len cap) (some (.int .i64 i)) (some (.int .i64 j)) (some (.int .i64 m))).run Try.prog w = .ok (.slice (cutA m.toNat i.toNat 29 A) (j.toNat - i.toNat) (m.toNat - i.toNat)) w := run_sl_3 Try.underlying23 inf_msgs A len cap i j m h0 h1 h2 h5 w
theorem sl_msgs_hi3 (A : Option Addr) (len cap : Nat) (j m : Int) (h1 : 0 ≤ j) (h2 : j ≤ m) (h5 : m ≤ cap) (w : World) : (slRow 23 (.slice A len cap) none (some (.int .i64 j)) (some (.int .i64 m))).run Try.prog w = .ok (.slice A j.toNat m.toNat) w := run_sl_hi3 Try.underlying23 inf_msgs A len cap j m h1 h2 h5 w
theorem sl_msgs_all (A : Option Addr) (len cap : Nat) (w : World) : (slRow 23 (.slice A len cap) none none none).run Try.prog w = .ok (.slice A len cap) w := run_sl_all Try.underlying23 inf_msgs A len cap w
attribute [go_sem ↓] sl_msgs
attribute [go_sem] sl_msgs_hi sl_msgs_lo sl_msgs_lohi sl_msgs_3 sl_msgs_hi3 sl_msgs_all
theorem cp_msgs_eq (ty : TypeId) (vs : Array Value) : Builtin.copy_ #[23, 23] ty vs = cpRow #[23, 23] ty vs := cpRow_eq _ _ _
theorem cp_msgs (w : World) (g o dLen dCap b off sLen sCap : Nat) (ty : TypeId) :
    (cpRow #[23, 23] ty #[.slice (some ⟨g, o, none⟩) dLen dCap, .slice (some ⟨b, off, none⟩) sLen sCap]).run Try.prog w =
      onCp (min sLen dLen) (row? w b off (min sLen dLen * 29)) ((row? w g o (min sLen dLen * 29)).isSome && free? w g) w g o ((cpRow' #[23, 23] ty #[.slice (some ⟨g, o, none⟩) dLen dCap, .slice (some ⟨b, off, none⟩) sLen sCap]).run Try.prog w) :=
  run_cpRow_on (P := Try.prog) (sT := 23) (ty := ty) (elem := 36) (n := 29) Try.underlying23 inf_msgs w g o dLen dCap b off sLen sCap
theorem cp_msgs_none (w : World) (d : Addr) (dLen dCap : Nat) (A : Option Addr) (c : Nat) (ty : TypeId) :
    (cpRow #[23, 23] ty #[.slice (some d) dLen dCap, .slice A 0 c]).run Try.prog w = .ok (.int .i64 0) w :=
  run_cpRow_none (P := Try.prog) (sT := 23) (ty := ty) (elem := 36) (n := 29) Try.underlying23 inf_msgs w d dLen dCap A c
attribute [go_sem ↓] cp_msgs_eq
attribute [go_sem] cp_msgs_none cp_msgs
theorem bs_msgs (m : Nat) (ps : Array (Nat × Value)) : Instr.buildSlice 23 (m + 1) ps = bsRow 23 (m + 1) ps := bsRow_eq _ _ _
theorem bs_msgs_1 (x : Msg) (w : World) : (bsRow 23 1 #[(0, .agg (Msg.arr x))]).run Try.prog w = .ok (.slice (some ⟨w.heap.size, 0, none⟩) 1 1) (w.alloc (.cells (Msg.arr x) 36)) := by
  have := run_bsRow_list slT_msgs Msg.enc [x] (by simp) (by simp) _ rfl w
  rw [flat_single] at this
  exact this
theorem bs_msgs_2 (x y : Msg) (w : World) : (bsRow 23 2 #[(0, .agg (Msg.arr x)), (1, .agg (Msg.arr y))]).run Try.prog w = .ok (.slice (some ⟨w.heap.size, 0, none⟩) 2 2) (w.alloc (.cells (flat Msg.arr [x, y]).toArray 36)) :=
  run_bsRow_list slT_msgs Msg.enc [x, y] (by simp) (by simp) _ rfl w
attribute [go_sem ↓] bs_msgs
attribute [go_sem] bs_msgs_1 bs_msgs_2
end Go.Proofs.Ytigbkhjcboecjaa
