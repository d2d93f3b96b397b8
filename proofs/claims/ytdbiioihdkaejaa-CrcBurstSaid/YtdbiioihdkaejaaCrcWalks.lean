/-
  Walks of the checksums: what the program's and the document's functions compute: the plain law's words. Conditions: the slice reads as a list of bytes.
-/
import Derived.Test.YtdbiioihdkaejaaRows
import Derived.Test.YtdbiioihdkaejaaBase
import Derived.Test.YtdbiioihdkaejaaCrcPure
namespace Go.Proofs.Ytdbiioihdkaejaa
open Go Go.RowKit
set_option linter.unusedVariables false

/-- a byte as a cell -/
def be (x : BitVec 8) : Array Value := #[.int .u8 (B8 x)]

theorem SlAt.byte {w : World} {b off : Nat} {xs : List (BitVec 8)} (h : ∀ i (h : i < xs.length), row? w b (off + i * 1) 1 = some (be xs[i])) {i : Nat} (hi : i < xs.length) : w.cell? ⟨b, off + i, none⟩ = some (.int .u8 (B8 xs[i])) := by
  have := row_cell0 (h i hi) (by omega) (v := .int .u8 (B8 xs[i])) rfl
  simpa using this

theorem W32_shr1 (y : BitVec 32) : W32 y / (2 : Int) = W32 (y >>> 1) := W32_shr y 1
theorem W32_shr8 (y : BitVec 32) : W32 y / (256 : Int) = W32 (y >>> 8) := W32_shr y 8
theorem W32_poly (a : BitVec 32) : bits .xor .u32 (W32 a) 3988292384 = W32 (a ^^^ 0xedb88320#32) := by
  have h : W32 0xedb88320#32 = 3988292384 := by rw [W32_def]; rfl
  rw [← h, W32_xor]
/-- the lowest bit -/
@[irreducible] def lsb (a : BitVec 32) : Bool := a.getLsbD 0
theorem W32_and1 (a : BitVec 32) : bits .and .u32 (W32 a) 1 = if lsb a then 1 else 0 := by
  unfold lsb
  rw [W32_def]
  have h := u32_and_nat a.toNat 1 a.isLt (by omega)
  rw [show ((1 : Nat) : Int) = 1 from rfl] at h
  rw [h, Nat.and_one_is_mod, lsb_toNat]
  by_cases hc : a.toNat % 2 = 1
  · simp [hc]
  · simp [hc]; omega
theorem and1_eq (c : Bool) : ((if c then (1 : Int) else 0) == 1) = c := by cases c <;> rfl
attribute [local go_sem] W32_shr1 W32_shr8 W32_poly W32_and1 and1_eq

theorem stepN_step (j : Nat) (x : BitVec 32) (h : lsb (stepN j x) = true) : stepN (j + 1) x = (stepN j x >>> 1) ^^^ 0xedb88320#32 := by
  unfold lsb at h
  rw [stepN_succ', stepL, if_pos h]
theorem stepN_skip (j : Nat) (x : BitVec 32) (h : lsb (stepN j x) = false) : stepN (j + 1) x = stepN j x >>> 1 := by
  unfold lsb at h
  rw [stepN_succ', stepL, if_neg (by rw [h]; simp)]

set_option maxHeartbeats 400000 in
/-- the document's step -/
theorem refstep_any (r : BitVec 32) (b : BitVec 8) (w : World) :
    Calls Try.prog 17 #[.int .u32 (W32 r), .int .u8 (B8 b)] w fun e w' => e = .returned (.int .u32 (W32 (stepB r b))) ∧ w = w' := by
  go_enter Try.func17, Try.ntmps17
  go_wp2
  go_loop [0, 5] (fun x i => ∃ k : Nat, k ≤ 8 ∧ i = .int .i64 k ∧ x = .int .u32 (W32 (stepN k (r ^^^ b.setWidth 32)))) (fun _ i => 8 - (intOf i).toNat)
  case atStart => exact ⟨0, by omega, rfl, rfl⟩
  case round =>
    obtain ⟨k, hk, rfl, rfl⟩ := hrel
    by_cases hlt : k < 8
    · cases hb : lsb (stepN k (r ^^^ b.setWidth 32))
      · have hs := Lib.hid (stepN_skip k _ hb)
        go_wp2
        go_round
        case rel => exact ⟨k + 1, by omega, by go_num, by rw [hs.out]⟩
        case measure => simp [intOf]; omega
      · have hs := Lib.hid (stepN_step k _ hb)
        go_wp2
        go_round
        case rel => exact ⟨k + 1, by omega, by go_num, by rw [hs.out]⟩
        case measure => simp [intOf]; omega
    · obtain rfl : k = 8 := by omega
      go_wp2
      go_ret
      exact ⟨rfl, rfl⟩

theorem B8_zero : B8 0#8 = 0 := by rw [B8_def]; rfl
theorem refstep_zero (r : BitVec 32) (w : World) :
    Calls Try.prog 17 #[.int .u32 (W32 r), .int .u8 0] w fun e w' => e = .returned (.int .u32 (W32 (stepB r 0#8))) ∧ w = w' := by
  have h := refstep_any r 0#8 w
  rwa [B8_zero] at h

set_option maxHeartbeats 400000 in
/-- the document's More -/
theorem refmore_any (r : BitVec 32) (v : Value) (bs : List (BitVec 8)) (w : World) (h : Sl be 1 w v bs) :
    Calls Try.prog 13 #[.int .u32 (W32 r), v] w fun e w' => e = .returned (.int .u32 (W32 (moreL r bs))) ∧ w = w' := by
  obtain ⟨A, cap, rfl, h0, h1, hA⟩ := h
  unfold maxLen at h1
  go_enter Try.func13, Try.ntmps13
  go_wp2
  go_loop [5, 6] (fun x i => ∃ k : Nat, k ≤ bs.length ∧ i = .int .i64 k ∧ x = .int .u32 (W32 (runB (~~~ r) (bs.take k)))) (fun _ i => bs.length - (intOf i).toNat)
  case atStart => exact ⟨0, by omega, rfl, rfl⟩
  case round =>
    obtain ⟨k, hk, rfl, rfl⟩ := hrel
    by_cases hlt : k < bs.length
    · obtain ⟨b, off, rfl, hb, hc⟩ := hA (by omega)
      have hc1 := SlAt.byte hc hlt
      have hs := Lib.hid (runB_take (~~~ r) bs k hlt)
      clear hc hA
      go_wp2_with (go_at_call 17; refine (refstep_any _ _ _).mono ?_; rintro e w' ⟨rfl, rfl⟩)
      go_round
      case rel => exact ⟨k + 1, by omega, by go_num, by rw [hs.out]⟩
      case measure => simp [intOf]; omega
    · obtain rfl : k = bs.length := by omega
      go_wp2
      go_ret
      exact ⟨by simp [moreL], rfl⟩

set_option maxHeartbeats 400000 in
/-- the document's Sum -/
theorem refsum_any (v : Value) (bs : List (BitVec 8)) (w : World) (h : Sl be 1 w v bs) :
    Calls Try.prog 11 #[v] w fun e w' => e = .returned (.int .u32 (W32 (sumL bs))) ∧ w = w' := by
  have h0 := Lib.hid (show (0 : Int) = W32 0#32 by rw [W32_def]; rfl)
  go_enter Try.func11, Try.ntmps11
  go_wp2_with fail
  rw [h0.out]
  refine (refmore_any _ _ _ _ h).mono ?_
  rintro e w' ⟨rfl, rfl⟩
  go_wp2
  go_ret
  exact ⟨rfl, rfl⟩

theorem runB_zeros_succ (r : BitVec 32) (k : Nat) : runB r (List.replicate (k + 1) 0#8) = stepB (runB r (List.replicate k 0#8)) 0#8 := by
  rw [List.replicate_succ', runB_snoc]

/-- how many bytes 0 -/
def many (n : Int) : Nat := min n.toNat 65536
theorem many_lt (n : Int) (k : Nat) : k < many n ↔ ((k : Int) < n ∧ (k : Int) < 65536) := by unfold many; omega

set_option maxHeartbeats 400000 in
/-- the document's Zeros -/
theorem refzeros_any (r : BitVec 32) (n : Int) (w : World) :
    Calls Try.prog 15 #[.int .u32 (W32 r), .int .i64 n] w fun e w' => e = .returned (.int .u32 (W32 (moreL r (List.replicate (many n) 0#8)))) ∧ w = w' := by
  go_enter Try.func15, Try.ntmps15
  go_wp2
  go_loop [5, 6] (fun x i => ∃ k : Nat, k ≤ many n ∧ i = .int .i64 k ∧ x = .int .u32 (W32 (runB (~~~ r) (List.replicate k 0#8)))) (fun _ i => many n - (intOf i).toNat)
  case atStart => exact ⟨0, by omega, rfl, rfl⟩
  case round =>
    obtain ⟨k, hk, rfl, rfl⟩ := hrel
    by_cases hlt : k < many n
    · obtain ⟨h1, h2⟩ := (many_lt n k).1 hlt
      have hs := Lib.hid (runB_zeros_succ (~~~ r) k)
      go_wp2_with (go_at_call 17; refine (refstep_zero _ _).mono ?_; rintro e w' ⟨rfl, rfl⟩)
      go_round
      case rel => exact ⟨k + 1, by omega, by go_num, by rw [hs.out]⟩
      case measure => simp [intOf]; omega
    · have hk' : k = many n := by omega
      have hno := fun h => hlt ((many_lt n k).2 h)
      have Hno := Lib.hid hno
      have Hk := Lib.hid hk'
      clear hno hlt hk hk'
      by_cases h1 : (k : Int) < n
      · have h2 : ¬ (k : Int) < 65536 := fun h => Hno.out ⟨h1, h⟩
        go_wp2
        go_ret
        exact ⟨by rw [Hk.out]; rfl, rfl⟩
      · go_wp2
        go_ret
        exact ⟨by rw [Hk.out]; rfl, rfl⟩

/-! ### the program's table -/
@[irreducible] def zero256 : Array Value := Array.replicate 256 (.int .u32 0)
def tabK : Nat → Array Value
  | 0 => zero256
  | k + 1 => (tabK k).setIfInBounds k (.int .u32 (W32 (stepN 8 (BitVec.ofNat 32 k))))
theorem tabK_zero : tabK 0 = zero256 := rfl
theorem tabK_succ (k : Nat) : tabK (k + 1) = (tabK k).setIfInBounds k (.int .u32 (W32 (stepN 8 (BitVec.ofNat 32 k)))) := rfl
theorem tabK_size (k : Nat) : (tabK k).size = 256 := by
  induction k with
  | zero => rw [tabK_zero]; unfold zero256; simp
  | succ k ih => rw [tabK_succ]; simp [ih]
theorem tabK_get (k i : Nat) (hi : i < 256) : (tabK k)[i]? = some (if i < k then .int .u32 (W32 (stepN 8 (BitVec.ofNat 32 i))) else .int .u32 0) := by
  induction k with
  | zero => rw [tabK_zero]; unfold zero256; simp [hi]
  | succ k ih =>
    rw [tabK_succ, Array.getElem?_setIfInBounds]
    by_cases hk : k = i
    · subst hk; rw [if_pos rfl, if_pos (by rw [tabK_size]; exact hi), if_pos (by omega)]
    · rw [if_neg hk, ih]
      by_cases h : i < k
      · rw [if_pos h, if_pos (by omega)]
      · rw [if_neg h, if_neg (by omega)]
theorem tabK_one (k : Nat) : oneCells (tabK k) = true := by
  unfold oneCells
  rw [Array.all_eq_true]
  intro i hi
  have h1 : i < 256 := by rw [tabK_size] at hi; exact hi
  have h := tabK_get k i h1
  rw [Array.getElem?_eq_getElem hi] at h
  injection h with h
  rw [h]
  split <;> rfl
def tabA : Array Value := tabK 256
theorem tabA_def : tabA = tabK 256 := rfl
theorem tabA_size : tabA.size = 256 := tabK_size _
theorem tabA_one : oneCells tabA = true := tabK_one _
theorem tabA_get (x : BitVec 8) : tabA[x.toNat]? = some (.int .u32 (W32 (stepN 8 (x.setWidth 32)))) := by
  have hx := x.isLt
  unfold tabA
  rw [tabK_get 256 x.toNat hx, if_pos hx]
  have e : BitVec.ofNat 32 x.toNat = x.setWidth 32 := by apply BitVec.eq_of_toNat_eq; simp
  rw [e]
theorem run_alloc_tab (w : World) (o : Value) : (alRow 35 true o).run Try.prog w = .ok (.pointer (some ⟨w.heap.size, 0, none⟩)) (w.alloc (.cells zero256 35)) := by
  unfold zero256
  exact run_alRow (z := .agg (Array.replicate 256 (.int .u32 0))) (by kernel_rfl) w o
theorem zero256_size : zero256.size = 256 := by unfold zero256; simp
theorem store_tab (b off : Nat) (cs : Array Value) (w : World) (hs : cs.size = 256) (h1 : oneCells cs = true) :
    (stRow 35 (.pointer (some ⟨b, off, none⟩)) (.agg cs)).run Try.prog w = onPut ((row? w b off 256).isSome && free? w b) (.ok () (putRow w b off cs)) ((stRow' 35 (.pointer (some ⟨b, off, none⟩)) (.agg cs)).run Try.prog w) :=
  run_stRow (P := Try.prog) (t := 35) (n := 256) (by kernel_rfl) b off cs w hs h1
theorem load_tab (b off : Nat) (w : World) : (ldRow 35 (.pointer (some ⟨b, off, none⟩))).run Try.prog w = onRow (row? w b off 256) w ((ldRow' 35 (.pointer (some ⟨b, off, none⟩))).run Try.prog w) :=
  run_ldRow (P := Try.prog) (t := 35) (n := 256) Try.underlying35 rfl (by kernel_rfl) b off w
theorem ld_tab (v : Value) : Instr.loadAt 35 v = ldRow 35 v := ldRow_eq _ _
theorem st_tab (a v : Value) : Instr.storeAt 35 a v = stRow 35 a v := stRow_eq _ _ _
theorem al_tab (h : Bool) (v : Value) : Instr.alloc 35 h v = alRow 35 h v := alRow_eq _ _ _
theorem row_tab (k : Nat) : rowOf (tabK k) 0 256 = some (tabK k) := rowOf_full _ _ (tabK_size k)
theorem row_tabA : rowOf tabA 0 256 = some tabA := rowOf_full _ _ tabA_size
theorem row_zero256 : rowOf zero256 0 256 = some zero256 := rowOf_full _ _ zero256_size
theorem splice_zero_tab (k : Nat) : splice zero256 0 (tabK k) = tabK k := splice_full _ _ (by rw [tabK_size, zero256_size])
theorem splice_zero_tabA : splice zero256 0 tabA = tabA := splice_full _ _ (by rw [tabA_size, zero256_size])
theorem W32_small (k : Nat) : IntKind.u32.wrap (k : Int) = W32 (BitVec.ofNat 32 k) := by
  rw [IntKind.wrap_u32', W32_def, BitVec.toNat_ofNat]; omega
attribute [local irreducible] tabK tabA
attribute [local go_sem ↓] ld_tab st_tab al_tab
attribute [local go_sem] run_alloc_tab store_tab load_tab
attribute [local go_sem] row_tab row_tabA row_zero256 splice_zero_tab splice_zero_tabA tabK_size tabK_one tabA_size tabA_one

set_option maxRecDepth 100000 in
set_option maxHeartbeats 1000000 in
/-- the program's table -/
theorem steps_any (w : World) : Calls Try.prog 16 #[] w (Is w (.agg tabA)) := by
  go_enter Try.func16, Try.ntmps16
  go_wp2
  go_loopw [5] (fun i wr => ∃ k : Nat, k ≤ 256 ∧ i = .int .i64 k ∧ wr = (w.alloc (.cells zero256 35)).alloc (.cells (tabK k) 35)) (fun i _ => 256 - (intOf i).toNat)
  case atStart => exact ⟨0, by omega, rfl, by rw [tabK_zero]⟩
  case round =>
    obtain ⟨k, hk, rfl, rfl⟩ := hrel
    by_cases hlt : k < 256
    · have hw := W32_small k
      have hg := tabK_get k k hlt
      rw [if_neg (by omega)] at hg
      have hk0 : (0 : Int) ≤ (k : Int) := by omega
      have hk1 : (k : Int) < 256 := by omega
      go_wp2
      have Hg := Lib.hid hg
      clear hg hw
      go_loop [3, 10] (fun x i => ∃ j : Nat, j ≤ 8 ∧ i = .int .i64 j ∧ x = .int .u32 (W32 (stepN j (BitVec.ofNat 32 k)))) (fun _ i => 8 - (intOf i).toNat)
      case atStart => exact ⟨0, by omega, rfl, rfl⟩
      case round =>
        obtain ⟨j, hj, rfl, rfl⟩ := hrel
        by_cases hlj : j < 8
        · cases hb : lsb (stepN j (BitVec.ofNat 32 k))
          · have hs := Lib.hid (stepN_skip j _ hb)
            go_wp2
            go_round
            case rel => exact ⟨j + 1, by omega, by go_num, by rw [hs.out]⟩
            case measure => simp [intOf]; omega
          · have hs := Lib.hid (stepN_step j _ hb)
            go_wp2
            go_round
            case rel => exact ⟨j + 1, by omega, by go_num, by rw [hs.out]⟩
            case measure => simp [intOf]; omega
        · obtain rfl : j = 8 := by omega
          have hg := Hg.out
          go_wp2
          go_roundw
          case rel => exact ⟨k + 1, by omega, by go_num, by rw [tabK_succ]⟩
          case measure => simp [intOf]; omega
    · obtain rfl : k = 256 := by omega
      go_wp2
      exact bodyPost_ret (results_1 rfl (res_cell (cs := tabK 256) (n := 256) Try.underlying35 rfl (by kernel_rfl) rfl (by go_simp))) rfl ⟨by rw [tabA_def], ((Ext.refl w).alloc _).alloc _⟩

theorem tab_index (x : BitVec 32) (c : BitVec 8) : tabA[bn (x.setWidth 8 ^^^ c)]? = some (.int .u32 (W32 (stepN 8 ((x.setWidth 8 ^^^ c).setWidth 32)))) := by
  rw [bn_def]; exact tabA_get _

set_option maxRecDepth 100000 in
set_option maxHeartbeats 1000000 in
/-- the program's More -/
theorem more_any (r : BitVec 32) (v : Value) (bs : List (BitVec 8)) (w : World) (h : Sl be 1 w v bs) :
    Calls Try.prog 12 #[.int .u32 (W32 r), v] w (Is w (.int .u32 (W32 (moreL r bs)))) := by
  obtain ⟨A, cap, rfl, h0, h1, hA⟩ := h
  unfold maxLen at h1
  go_enter Try.func12, Try.ntmps12
  go_wp2_with (go_at_call 16; refine (steps_any _).mono ?_; rintro e w1 ⟨rfl, he1⟩)
  have hA1 := hA.ext he1
  have H1 := Lib.hid he1
  clear hA he1
  go_loop [6, 14] (fun x i => ∃ k : Nat, k ≤ bs.length ∧ i = .int .i64 k ∧ x = .int .u32 (W32 (runB (~~~ r) (bs.take k)))) (fun _ i => bs.length - (intOf i).toNat)
  case atStart => exact ⟨0, by omega, rfl, rfl⟩
  case round =>
    obtain ⟨k, hk, rfl, rfl⟩ := hrel
    by_cases hlt : k < bs.length
    · obtain ⟨b, off, rfl, hb, hc⟩ := hA1 (by omega)
      have hc1 := SlAt.byte hc hlt
      have hs := Lib.hid ((runB_take (~~~ r) bs k hlt).trans (table_step _ _))
      have ht := tab_index (runB (~~~ r) (bs.take k)) bs[k]
      clear hc hA1
      go_wp2
      go_round
      case rel => exact ⟨k + 1, by omega, by go_num, by rw [hs.out, BitVec.setWidth_xor]⟩
      case measure => simp [intOf]; omega
    · obtain rfl : k = bs.length := by omega
      go_wp2
      go_ret
      exact ⟨by simp [moreL], H1.out.alloc _⟩

set_option maxHeartbeats 400000 in
/-- the program's Sum -/
theorem sum_any (v : Value) (bs : List (BitVec 8)) (w : World) (h : Sl be 1 w v bs) :
    Calls Try.prog 10 #[v] w (Is w (.int .u32 (W32 (sumL bs)))) := by
  have h0 := Lib.hid (show (0 : Int) = W32 0#32 by rw [W32_def]; rfl)
  go_enter Try.func10, Try.ntmps10
  go_wp2_with fail
  rw [h0.out]
  refine (more_any _ _ _ _ h).mono ?_
  rintro e w1 ⟨rfl, he1⟩
  go_wp2
  go_ret
  exact ⟨rfl, he1⟩

theorem many_int (n : Int) : max 0 (min n 65536) = (many n : Int) := by unfold many; omega

/-- n bytes 0, as cells -/
@[irreducible] def zb (n : Nat) : Array Value := Array.replicate n (.int .u8 0)
theorem zb_size (n : Nat) : (zb n).size = n := by unfold zb; simp
theorem zb_get (n i : Nat) (h : i < n) : (zb n)[i]? = some (.int .u8 0) := by unfold zb; simp [h]
theorem zb_made (n : Nat) : madeCells #[.int .u8 0] n = zb n := by
  unfold zb madeCells
  apply Array.ext_getElem?
  intro i
  by_cases h : i < n
  · simp [h, Nat.mod_one]
  · simp [h]
theorem zeros_sl (w : World) (e : TypeId) (n : Nat) (h : n ≤ 65536) : Sl be 1 (w.alloc (.cells (zb n) e)) (.slice (some ⟨w.heap.size, 0, none⟩) n n) (List.replicate n 0#8) := by
  refine ⟨some ⟨w.heap.size, 0, none⟩, n, by simp, by simp, by unfold maxLen; omega, fun h0 => ⟨w.heap.size, 0, rfl, by simp, fun i hi => ?_⟩⟩
  rw [row_alloc_at _ _ _ _ _ _ _ rfl]
  simp only [List.length_replicate] at hi
  unfold rowOf
  rw [if_pos (by rw [zb_size]; omega)]
  simp only [List.getElem_replicate]
  congr 1
  apply Array.ext_getElem?
  intro k
  rw [Array.getElem?_extract]
  by_cases hk : k < 1
  · obtain rfl : k = 0 := by omega
    rw [if_pos (by rw [zb_size]; omega), zb_get _ _ (by omega)]
    simp [be, B8_zero]
  · rw [if_neg (by omega), Array.getElem?_eq_none (by simp [be]; omega)]
theorem run_make_zb (n : Nat) (h : n ≤ 65536) (w : World) : (Instr.makeSlice 22 (.int .i64 (n : Int)) (.int .i64 (n : Int))).run Try.prog w = .ok (.slice (some ⟨w.heap.size, 0, none⟩) n n) (w.alloc (.cells (zb n) 5)) := by
  have h := run_make_sl (P := Try.prog) (t := 22) (e := 5) (z := .int .u8 0) (size := 1) (bytes := 1) Try.underlying22 (by kernel_rfl) n n (Nat.le_refl _) (by omega) (by omega) w
  rw [h, Nat.mul_one]
  simp only [Value.cells, zb_made]

set_option maxHeartbeats 400000 in
/-- the program's Zeros -/
theorem zeros_any (r : BitVec 32) (n : Int) (w : World) :
    Calls Try.prog 14 #[.int .u32 (W32 r), .int .i64 n] w (Is w (.int .u32 (W32 (moreL r (List.replicate (many n) 0#8))))) := by
  have hm : many n ≤ 65536 := by unfold many; omega
  have hmk := run_make_zb (many n) hm
  by_cases h1 : n ≤ 0
  · have e : ((many n : Nat) : Int) = 0 := by unfold many; omega
    have h2 : n ≤ 65536 := by omega
    rw [e] at hmk
    clear e
    go_enter Try.func14, Try.ntmps14
    go_wp2_with (go_at_call 12; refine (more_any _ _ _ _ (zeros_sl _ _ _ hm)).mono ?_; rintro e w1 ⟨rfl, he1⟩)
    go_ret
    exact ⟨rfl, ((Ext.refl w).alloc _).trans he1⟩
  · by_cases h2 : n ≤ 65536
    · have e : ((many n : Nat) : Int) = n := by unfold many; omega
      rw [e] at hmk
      clear e
      go_enter Try.func14, Try.ntmps14
      go_wp2_with (go_at_call 12; refine (more_any _ _ _ _ (zeros_sl _ _ _ hm)).mono ?_; rintro e w1 ⟨rfl, he1⟩)
      go_ret
      exact ⟨rfl, ((Ext.refl w).alloc _).trans he1⟩
    · have e : ((many n : Nat) : Int) = 65536 := by unfold many; omega
      rw [e] at hmk
      clear e
      go_enter Try.func14, Try.ntmps14
      go_wp2_with (go_at_call 12; refine (more_any _ _ _ _ (zeros_sl _ _ _ hm)).mono ?_; rintro e w1 ⟨rfl, he1⟩)
      go_ret
      exact ⟨rfl, ((Ext.refl w).alloc _).trans he1⟩
end Go.Proofs.Ytdbiioihdkaejaa
