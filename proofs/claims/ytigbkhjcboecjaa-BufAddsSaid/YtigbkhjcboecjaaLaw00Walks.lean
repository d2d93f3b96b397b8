/-
  Law00Walks: what the laws share: places, keys by numbers: the plain law's words. Conditions: the divisor is above 0.
-/
import Derived.Test.YtigbkhjcboecjaaVlProg
namespace Go.Proofs.Ytigbkhjcboecjaa
open Go Go.RowKit
set_option linter.unusedVariables false
set_option linter.unusedSimpArgs false

set_option maxRecDepth 100000 in
set_option maxHeartbeats 1000000 in
theorem lplace_any (v n : Int) (w : World) (h0 : 0 < n) (h1 : n ≤ 9223372036854775807) (hv : -9223372036854775808 ≤ v ∧ v ≤ 9223372036854775807) :
    Calls Try.prog 37 #[.int .i64 v, .int .i64 n] w fun e w' => e = .returned (.int .i64 (v % n)) ∧ w' = w := by
  have hn : n ≠ 0 := by omega
  have hn1 : ¬ n = -1 := by omega
  have hb := Int.natAbs_tmod v n
  have hlt : (v.tmod n).natAbs < n.natAbs := by rw [hb]; exact Nat.mod_lt _ (by omega)
  have hem : v % n = if v.tmod n < 0 then v.tmod n + n else v.tmod n := by
    have e1 := Int.emod_def v n
    have e2 := Int.tmod_def v n
    have e3 := Int.emod_nonneg v hn
    have e4 := Int.emod_lt_of_pos v h0
    have e5 : v % n = v.tmod n ∨ v % n = v.tmod n + n := by
      rw [Int.emod_eq_tmod]; split
      · exact .inl (by omega)
      · right; omega
    split <;> omega
  have HE := Lib.hid hem
  clear hem hb
  by_cases hneg : v.tmod n < 0
  · have i1 : IntKind.i64.wrap (v.tmod n + n) = v.tmod n + n := IntWalk.i64_in _ (by omega)
    have i2 : IntKind.i64.wrap (v.tmod n) = v.tmod n := IntWalk.i64_in _ (by omega)
    have HN := Lib.hid hneg
    go_enter Try.func37, Try.ntmps37
    go_wp2
    go_ret
    exact ⟨by rw [HE.out, if_pos HN.out]; rfl, rfl⟩
  · have i2 : IntKind.i64.wrap (v.tmod n) = v.tmod n := IntWalk.i64_in _ (by omega)
    have HE2 := Lib.hid (HE.out.trans (if_neg hneg))
    clear HE
    go_enter Try.func37, Try.ntmps37
    go_wp2
    go_ret
    exact ⟨by rw [HE2.out]; rfl, rfl⟩

/-! ### keys by numbers -/
/-- cells that are bytes -/
@[irreducible] def u8L : List Value → Bool
  | [] => true
  | .int .u8 _ :: l => u8L l
  | _ :: _ => false
theorem u8L_nil : u8L [] = true := by unfold u8L; rfl
theorem u8L_cons (x : Int) (l : List Value) : u8L (.int .u8 x :: l) = u8L l := by rw [u8L]
/-- a cell's byte -/
def cellBy : Value → BitVec 8
  | .int _ x => BitVec.ofNat 8 x.toNat
  | _ => 0#8
@[irreducible] def byL (l : List Value) : List (BitVec 8) := l.map cellBy
theorem byL_def (l : List Value) : byL l = l.map cellBy := by unfold byL; rfl
theorem u8L_ints : ∀ (l : List Value), u8L l = true → ∃ ns : List Int, l = ns.map (Value.int .u8)
  | [], _ => ⟨[], rfl⟩
  | v :: l, h => by
    cases v with
    | int k x =>
      cases k <;> first | (rw [u8L_cons] at h; obtain ⟨ns, rfl⟩ := u8L_ints l h; exact ⟨x :: ns, rfl⟩) | (unfold u8L at h; cases h)
    | _ => unfold u8L at h; cases h
attribute [go_sem] u8L_nil u8L_cons
/-- the numbers are bytes' -/
theorem cv_alloc (b n c : Nat) (w : World) (l : List Value) (hb : b = w.heap.size) (hn : n = l.length) (hu : u8L l = true) :
    (convert 61 9 (.slice (some ⟨b, 0, none⟩) n c)).run Try.prog (w.alloc (.cells l.toArray 5)) = .ok (.string (bytesOf (byL l))) (w.alloc (.cells l.toArray 5)) := by
  obtain ⟨ns, rfl⟩ := u8L_ints l hu
  subst hb
  subst hn
  rw [run_convert_bytes_string _ 61 9 5 _ _ _ Try.underlying61 Try.underlying5 Try.underlying9]
  have hr : row? (w.alloc (.cells (ns.map (Value.int .u8)).toArray 5)) w.heap.size 0 (ns.map (Value.int .u8)).length = some (ns.map (Value.int .u8)).toArray := by
    rw [row_alloc_at _ _ _ _ _ _ _ rfl]; exact rowOf_full _ _ (by simp)
  have hl := run_loadCells_row (P := Try.prog) hr
  rw [run_bytesToString _ ⟨w.heap.size, 0, none⟩ _ c ns hl]
  have hf : ∀ (l : List Int) (s : ByteArray), (l.foldl (fun r n => r.push (UInt8.ofNat n.toNat)) s) = ⟨s.data ++ (l.map fun n => UInt8.ofNat n.toNat).toArray⟩ := by
    intro l
    induction l with
    | nil => intro s; simp
    | cons x l ih =>
      intro s
      rw [List.foldl_cons, ih]
      congr 1
      simp [ByteArray.push]
  rw [hf, bytesOf_def, byL_def]
  congr 2
  simp [ByteArray.empty, ByteArray.emptyWithCapacity, Function.comp_def, cellBy]
  rfl
attribute [go_sem] cv_alloc

theorem bytes_extract (l : List (BitVec 8)) (n : Nat) : (bytesOf l).extract 0 n = bytesOf (l.take n) := by
  rw [bytesOf_def, bytesOf_def]
  apply ByteArray.ext
  rw [ByteArray.data_extract]
  simp [List.map_take]
attribute [go_sem] bytes_extract
theorem byL_length (l : List Value) : (byL l).length = l.length := by rw [byL_def]; simp

def bN (n : Nat) : BitVec 8 := BitVec.ofNat 8 n
def keyText (k : Nat) : List (BitVec 8) :=
  match k % 8 with
  | 0 | 1 | 2 => [bN (97 + k / 8 % 6)]
  | 3 | 4 => [bN (97 + k / 8 % 5), bN (97 + k / 40 % 4)]
  | 5 => [bN (97 + k / 8 % 4), 0, bN (k / 32 % 256), bN (k / 8192 % 4), 255, 120, 121, bN (97 + k / 32768 % 3)]
  | 6 => [bN (98 + k / 8 % 3), 108, 111, 110, 103, 101, 114, bN (48 + k / 24 % 9)]
  | _ => [bN (k / 8 % 256), bN (k / 2048 % 256)].take (k / 524288 % 3)
def lawKey (v : Int) : Key := mkKey (keyText (v % 1099511627776).toNat)

theorem keyText_length (k : Nat) : (keyText k).length ≤ 8 := by
  unfold keyText
  split <;> simp
  omega
theorem lawKey_ok (v : Int) : (lawKey v).ok = true := mkKey_ok _ (keyText_length _)
theorem by_n (n : Nat) (x : Int) (h : x = (n : Int)) : BitVec.ofNat 8 x.toNat = bN n := by subst h; rfl

set_option maxRecDepth 100000 in
set_option maxHeartbeats 8000000 in
theorem lkey_any (v : Int) (w : World) (hv : -9223372036854775808 ≤ v ∧ v ≤ 9223372036854775807) : Calls Try.prog 11 #[.int .i64 v] w (Is w (.agg (lawKey v).arr)) := by
  obtain ⟨k, hk⟩ : ∃ k : Nat, v % 1099511627776 = (k : Int) := ⟨(v % 1099511627776).toNat, by omega⟩
  have hlt : k < 1099511627776 := by omega
  have hbx : Box (w.alloc (.cells Key.zero.arr 27)) w.heap.size Key.zero.arr 27 := (by repeat (first | with_reducible assumption | with_reducible exact Box.new (by simp) | with_reducible refine Box.past ?_ _ | with_reducible refine Box.drew ?_ | with_reducible refine Box.drewN ?_ _ | refine Box.ext ?_ (by with_reducible assumption)))
  have HB := Lib.hid hbx
  have HK := Lib.hid hk
  have hlk : lawKey v = mkKey (keyText k) := by unfold lawKey; rw [hk]; rfl
  have HL := Lib.hid hlk
  have hlen := keyText_length k
  have HN := Lib.hid hlen
  have hk0 : (0 : Int) ≤ (k : Int) := by omega
  clear hbx hk hlk hlen
  by_cases h0 : (k : Int) % 8 = 0
  · have hby : byL [.int .u8 (97 + (k : Int) / 8 % 6)] = keyText k := by
      rw [byL_def]
      unfold keyText
      rw [show k % 8 = 0 from by omega]
      simp only [List.map_cons, List.map_nil, cellBy]
      repeat (first | rfl | (refine congr (congrArg List.cons (by_n _ _ (by omega))) ?_) | (refine congr (congrArg List.cons rfl) ?_))
    have HY := Lib.hid hby
    clear hby
    go_enter Try.func11, Try.ntmps11
    go_wp2_with fail
    refine (lplace_any _ _ _ (by omega) (by omega) hv).mono ?_
    rintro e w1 ⟨rfl, rfl⟩
    rw [HK.out]
    go_wp2_with fail
    rw [HY.out]
    refine (refkeyof_any _ _).mono ?_
    rintro e w2 ⟨rfl, he2⟩
    rw [if_pos HN.out]
    have hb2 : Box w2 w.heap.size Key.zero.arr 27 := HB.out.ext (((Ext.refl _).alloc _).trans he2)
    have hrow := (hb2.row 0 9).trans (Key.row _)
    have hfree := hb2.free
    have hlt2 := hb2.lt
    go_wp2
    exact bodyPost_ret (results_1 rfl (res_cell (cs := (lawKey v).arr) Try.underlying27 rfl Key.size' rfl (by rw [row_alloc_past _ _ _ _ _ (by rw [putRow_size]; exact hlt2), (hb2.put 0 _).row, Key.put, HL.out]; exact Key.row _))) rfl ⟨rfl, Ext.alloc (Ext.putRow (Ext.trans (((Ext.refl w).alloc _).alloc _) he2) (Nat.le_refl _)) _⟩
  by_cases h1 : (k : Int) % 8 = 1
  · have hby : byL [.int .u8 (97 + (k : Int) / 8 % 6)] = keyText k := by
      rw [byL_def]
      unfold keyText
      rw [show k % 8 = 1 from by omega]
      simp only [List.map_cons, List.map_nil, cellBy]
      repeat (first | rfl | (refine congr (congrArg List.cons (by_n _ _ (by omega))) ?_) | (refine congr (congrArg List.cons rfl) ?_))
    have HY := Lib.hid hby
    clear hby
    go_enter Try.func11, Try.ntmps11
    go_wp2_with fail
    refine (lplace_any _ _ _ (by omega) (by omega) hv).mono ?_
    rintro e w1 ⟨rfl, rfl⟩
    rw [HK.out]
    go_wp2_with fail
    rw [HY.out]
    refine (refkeyof_any _ _).mono ?_
    rintro e w2 ⟨rfl, he2⟩
    rw [if_pos HN.out]
    have hb2 : Box w2 w.heap.size Key.zero.arr 27 := HB.out.ext (((Ext.refl _).alloc _).trans he2)
    have hrow := (hb2.row 0 9).trans (Key.row _)
    have hfree := hb2.free
    have hlt2 := hb2.lt
    go_wp2
    exact bodyPost_ret (results_1 rfl (res_cell (cs := (lawKey v).arr) Try.underlying27 rfl Key.size' rfl (by rw [row_alloc_past _ _ _ _ _ (by rw [putRow_size]; exact hlt2), (hb2.put 0 _).row, Key.put, HL.out]; exact Key.row _))) rfl ⟨rfl, Ext.alloc (Ext.putRow (Ext.trans (((Ext.refl w).alloc _).alloc _) he2) (Nat.le_refl _)) _⟩
  by_cases h2 : (k : Int) % 8 = 2
  · have hby : byL [.int .u8 (97 + (k : Int) / 8 % 6)] = keyText k := by
      rw [byL_def]
      unfold keyText
      rw [show k % 8 = 2 from by omega]
      simp only [List.map_cons, List.map_nil, cellBy]
      repeat (first | rfl | (refine congr (congrArg List.cons (by_n _ _ (by omega))) ?_) | (refine congr (congrArg List.cons rfl) ?_))
    have HY := Lib.hid hby
    clear hby
    go_enter Try.func11, Try.ntmps11
    go_wp2_with fail
    refine (lplace_any _ _ _ (by omega) (by omega) hv).mono ?_
    rintro e w1 ⟨rfl, rfl⟩
    rw [HK.out]
    go_wp2_with fail
    rw [HY.out]
    refine (refkeyof_any _ _).mono ?_
    rintro e w2 ⟨rfl, he2⟩
    rw [if_pos HN.out]
    have hb2 : Box w2 w.heap.size Key.zero.arr 27 := HB.out.ext (((Ext.refl _).alloc _).trans he2)
    have hrow := (hb2.row 0 9).trans (Key.row _)
    have hfree := hb2.free
    have hlt2 := hb2.lt
    go_wp2
    exact bodyPost_ret (results_1 rfl (res_cell (cs := (lawKey v).arr) Try.underlying27 rfl Key.size' rfl (by rw [row_alloc_past _ _ _ _ _ (by rw [putRow_size]; exact hlt2), (hb2.put 0 _).row, Key.put, HL.out]; exact Key.row _))) rfl ⟨rfl, Ext.alloc (Ext.putRow (Ext.trans (((Ext.refl w).alloc _).alloc _) he2) (Nat.le_refl _)) _⟩
  by_cases h3 : (k : Int) % 8 = 3
  · have hby : byL [.int .u8 (97 + (k : Int) / 8 % 5), .int .u8 (97 + (k : Int) / 40 % 4)] = keyText k := by
      rw [byL_def]
      unfold keyText
      rw [show k % 8 = 3 from by omega]
      simp only [List.map_cons, List.map_nil, cellBy]
      repeat (first | rfl | (refine congr (congrArg List.cons (by_n _ _ (by omega))) ?_) | (refine congr (congrArg List.cons rfl) ?_))
    have HY := Lib.hid hby
    clear hby
    go_enter Try.func11, Try.ntmps11
    go_wp2_with fail
    refine (lplace_any _ _ _ (by omega) (by omega) hv).mono ?_
    rintro e w1 ⟨rfl, rfl⟩
    rw [HK.out]
    go_wp2_with fail
    rw [HY.out]
    refine (refkeyof_any _ _).mono ?_
    rintro e w2 ⟨rfl, he2⟩
    rw [if_pos HN.out]
    have hb2 : Box w2 w.heap.size Key.zero.arr 27 := HB.out.ext (((Ext.refl _).alloc _).trans he2)
    have hrow := (hb2.row 0 9).trans (Key.row _)
    have hfree := hb2.free
    have hlt2 := hb2.lt
    go_wp2
    exact bodyPost_ret (results_1 rfl (res_cell (cs := (lawKey v).arr) Try.underlying27 rfl Key.size' rfl (by rw [row_alloc_past _ _ _ _ _ (by rw [putRow_size]; exact hlt2), (hb2.put 0 _).row, Key.put, HL.out]; exact Key.row _))) rfl ⟨rfl, Ext.alloc (Ext.putRow (Ext.trans (((Ext.refl w).alloc _).alloc _) he2) (Nat.le_refl _)) _⟩
  by_cases h4 : (k : Int) % 8 = 4
  · have hby : byL [.int .u8 (97 + (k : Int) / 8 % 5), .int .u8 (97 + (k : Int) / 40 % 4)] = keyText k := by
      rw [byL_def]
      unfold keyText
      rw [show k % 8 = 4 from by omega]
      simp only [List.map_cons, List.map_nil, cellBy]
      repeat (first | rfl | (refine congr (congrArg List.cons (by_n _ _ (by omega))) ?_) | (refine congr (congrArg List.cons rfl) ?_))
    have HY := Lib.hid hby
    clear hby
    go_enter Try.func11, Try.ntmps11
    go_wp2_with fail
    refine (lplace_any _ _ _ (by omega) (by omega) hv).mono ?_
    rintro e w1 ⟨rfl, rfl⟩
    rw [HK.out]
    go_wp2_with fail
    rw [HY.out]
    refine (refkeyof_any _ _).mono ?_
    rintro e w2 ⟨rfl, he2⟩
    rw [if_pos HN.out]
    have hb2 : Box w2 w.heap.size Key.zero.arr 27 := HB.out.ext (((Ext.refl _).alloc _).trans he2)
    have hrow := (hb2.row 0 9).trans (Key.row _)
    have hfree := hb2.free
    have hlt2 := hb2.lt
    go_wp2
    exact bodyPost_ret (results_1 rfl (res_cell (cs := (lawKey v).arr) Try.underlying27 rfl Key.size' rfl (by rw [row_alloc_past _ _ _ _ _ (by rw [putRow_size]; exact hlt2), (hb2.put 0 _).row, Key.put, HL.out]; exact Key.row _))) rfl ⟨rfl, Ext.alloc (Ext.putRow (Ext.trans (((Ext.refl w).alloc _).alloc _) he2) (Nat.le_refl _)) _⟩
  by_cases h5 : (k : Int) % 8 = 5
  · have hby : byL [.int .u8 (97 + (k : Int) / 8 % 4), .int .u8 (0), .int .u8 ((k : Int) / 32 % 256), .int .u8 ((k : Int) / 8192 % 4), .int .u8 (255), .int .u8 (120), .int .u8 (121), .int .u8 (97 + (k : Int) / 32768 % 3)] = keyText k := by
      rw [byL_def]
      unfold keyText
      rw [show k % 8 = 5 from by omega]
      simp only [List.map_cons, List.map_nil, cellBy]
      repeat (first | rfl | (refine congr (congrArg List.cons (by_n _ _ (by omega))) ?_) | (refine congr (congrArg List.cons rfl) ?_))
    have HY := Lib.hid hby
    clear hby
    go_enter Try.func11, Try.ntmps11
    go_wp2_with fail
    refine (lplace_any _ _ _ (by omega) (by omega) hv).mono ?_
    rintro e w1 ⟨rfl, rfl⟩
    rw [HK.out]
    go_wp2_with fail
    rw [HY.out]
    refine (refkeyof_any _ _).mono ?_
    rintro e w2 ⟨rfl, he2⟩
    rw [if_pos HN.out]
    have hb2 : Box w2 w.heap.size Key.zero.arr 27 := HB.out.ext (((Ext.refl _).alloc _).trans he2)
    have hrow := (hb2.row 0 9).trans (Key.row _)
    have hfree := hb2.free
    have hlt2 := hb2.lt
    go_wp2
    exact bodyPost_ret (results_1 rfl (res_cell (cs := (lawKey v).arr) Try.underlying27 rfl Key.size' rfl (by rw [row_alloc_past _ _ _ _ _ (by rw [putRow_size]; exact hlt2), (hb2.put 0 _).row, Key.put, HL.out]; exact Key.row _))) rfl ⟨rfl, Ext.alloc (Ext.putRow (Ext.trans (((Ext.refl w).alloc _).alloc _) he2) (Nat.le_refl _)) _⟩
  by_cases h6 : (k : Int) % 8 = 6
  · have hby : byL [.int .u8 (98 + (k : Int) / 8 % 3), .int .u8 (108), .int .u8 (111), .int .u8 (110), .int .u8 (103), .int .u8 (101), .int .u8 (114), .int .u8 (48 + (k : Int) / 24 % 9)] = keyText k := by
      rw [byL_def]
      unfold keyText
      rw [show k % 8 = 6 from by omega]
      simp only [List.map_cons, List.map_nil, cellBy]
      repeat (first | rfl | (refine congr (congrArg List.cons (by_n _ _ (by omega))) ?_) | (refine congr (congrArg List.cons rfl) ?_))
    have HY := Lib.hid hby
    clear hby
    go_enter Try.func11, Try.ntmps11
    go_wp2_with fail
    refine (lplace_any _ _ _ (by omega) (by omega) hv).mono ?_
    rintro e w1 ⟨rfl, rfl⟩
    rw [HK.out]
    go_wp2_with fail
    rw [HY.out]
    refine (refkeyof_any _ _).mono ?_
    rintro e w2 ⟨rfl, he2⟩
    rw [if_pos HN.out]
    have hb2 : Box w2 w.heap.size Key.zero.arr 27 := HB.out.ext (((Ext.refl _).alloc _).trans he2)
    have hrow := (hb2.row 0 9).trans (Key.row _)
    have hfree := hb2.free
    have hlt2 := hb2.lt
    go_wp2
    exact bodyPost_ret (results_1 rfl (res_cell (cs := (lawKey v).arr) Try.underlying27 rfl Key.size' rfl (by rw [row_alloc_past _ _ _ _ _ (by rw [putRow_size]; exact hlt2), (hb2.put 0 _).row, Key.put, HL.out]; exact Key.row _))) rfl ⟨rfl, Ext.alloc (Ext.putRow (Ext.trans (((Ext.refl w).alloc _).alloc _) he2) (Nat.le_refl _)) _⟩
  have h7 : (k : Int) % 8 = 7 := by omega
  have hb0 : (0 : Int) ≤ (k : Int) / 524288 % 3 := by omega
  have hb3 : (k : Int) / 524288 % 3 ≤ 2 := by omega
  have hsz : (bytesOf (byL [.int .u8 ((k : Int) / 8 % 256), .int .u8 ((k : Int) / 2048 % 256)])).size = 2 := by rw [bytesOf_size, byL_length]; rfl
  have hby : (byL [.int .u8 ((k : Int) / 8 % 256), .int .u8 ((k : Int) / 2048 % 256)]).take (k / 524288 % 3) = keyText k := by
    rw [byL_def]
    unfold keyText
    rw [show k % 8 = 7 from by omega]
    simp only [List.map_cons, List.map_nil, cellBy]
    rw [by_n (k / 8 % 256) _ (by omega), by_n (k / 2048 % 256) _ (by omega)]
  have HY := Lib.hid hby
  clear hby
  go_enter Try.func11, Try.ntmps11
  go_wp2_with fail
  refine (lplace_any _ _ _ (by omega) (by omega) hv).mono ?_
  rintro e w1 ⟨rfl, rfl⟩
  rw [HK.out]
  go_wp2_with fail
  rw [HY.out]
  refine (refkeyof_any _ _).mono ?_
  rintro e w2 ⟨rfl, he2⟩
  rw [if_pos HN.out]
  have hb2 : Box w2 w.heap.size Key.zero.arr 27 := HB.out.ext (((Ext.refl _).alloc _).trans he2)
  have hrow := (hb2.row 0 9).trans (Key.row _)
  have hfree := hb2.free
  have hlt2 := hb2.lt
  go_wp2
  exact bodyPost_ret (results_1 rfl (res_cell (cs := (lawKey v).arr) Try.underlying27 rfl Key.size' rfl (by rw [row_alloc_past _ _ _ _ _ (by rw [putRow_size]; exact hlt2), (hb2.put 0 _).row, Key.put, HL.out]; exact Key.row _))) rfl ⟨rfl, Ext.alloc (Ext.putRow (Ext.trans (((Ext.refl w).alloc _).alloc _) he2) (Nat.le_refl _)) _⟩
end Go.Proofs.Ytigbkhjcboecjaa
