/-
  M4: several texts as one: Law00Walks, Afn, AbsStr, OwnOps, Opn, Cal, Msg, LeafPure, LeafWalks, LeafPut, LeafPut2, AfnPlace, LawVal, Model1, Model2, AbsRange, Model3, LeafMore, LawEnts, Model4, AfnFan0, AfnFan, AfnRef8, Model5, Line1, LineClone, AbsX, AbsX2, Line2. No condition beyond those that each theorem states.
-/
import Derived.Test.YtphojngdgmnpaaaM3
import Derived.Lib.AppendZerosOnto
import Derived.Laws.IdiomStrings
import Derived.RangeFuncRecord
import Derived.DeepKeys5
namespace Go.Proofs.Ytphojngdgmnpaaa
open Go Go.RowKit
set_option linter.unusedVariables false
set_option linter.unusedSimpArgs false
set_option maxRecDepth 100000

set_option maxRecDepth 100000 in
set_option maxHeartbeats 1000000 in
theorem lplace_any (v n : Int) (w : World) (h0 : 0 < n) (h1 : n ≤ 9223372036854775807) (hv : -9223372036854775808 ≤ v ∧ v ≤ 9223372036854775807) :
    Calls Try.prog 17 #[.int .i64 v, .int .i64 n] w fun e w' => e = .returned (.int .i64 (v % n)) ∧ w' = w := by
  have hn : n ≠ 0 := by omega
  have hn1 : ¬ n = -1 := by omega
  have hb := Int.natAbs_tmod v n
  have hlt : (v.tmod n).natAbs < n.natAbs := by rw [hb]; exact Nat.mod_lt _ (by omega)
  have hem : v % n = if v.tmod n < 0 then v.tmod n + n else v.tmod n := by
    have e1 := Int.emod_def v n
    have e2 := Int.tmod_def v n
    have e3 := Int.emod_nonneg v hn
    have e4 := Int.emod_lt_of_pos v h0
    have e5 : v % n = v.tmod n ∨ v % n = v.tmod n + n := by
      rw [Int.emod_eq_tmod]; split
      · exact .inl (by omega)
      · right; omega
    split <;> omega
  have HE := Lib.hid hem
  clear hem hb
  by_cases hneg : v.tmod n < 0
  · have i1 : IntKind.i64.wrap (v.tmod n + n) = v.tmod n + n := IntWalk.i64_in _ (by omega)
    have i2 : IntKind.i64.wrap (v.tmod n) = v.tmod n := IntWalk.i64_in _ (by omega)
    have HN := Lib.hid hneg
    go_enter Try.func17, Try.ntmps17
    go_wp2
    go_ret
    exact ⟨by rw [HE.out, if_pos HN.out]; rfl, rfl⟩
  · have i2 : IntKind.i64.wrap (v.tmod n) = v.tmod n := IntWalk.i64_in _ (by omega)
    have HE2 := Lib.hid (HE.out.trans (if_neg hneg))
    clear HE
    go_enter Try.func17, Try.ntmps17
    go_wp2
    go_ret
    exact ⟨by rw [HE2.out]; rfl, rfl⟩

/-! ### keys by numbers -/
/-- cells that are bytes -/
@[irreducible] def u8L : List Value → Bool
  | [] => true
  | .int .u8 _ :: l => u8L l
  | _ :: _ => false
theorem u8L_nil : u8L [] = true := by unfold u8L; rfl
theorem u8L_cons (x : Int) (l : List Value) : u8L (.int .u8 x :: l) = u8L l := by rw [u8L]
/-- a cell's byte -/
def cellBy : Value → BitVec 8
  | .int _ x => BitVec.ofNat 8 x.toNat
  | _ => 0#8
@[irreducible] def byL (l : List Value) : List (BitVec 8) := l.map cellBy
theorem byL_def (l : List Value) : byL l = l.map cellBy := by unfold byL; rfl
theorem u8L_ints : ∀ (l : List Value), u8L l = true → ∃ ns : List Int, l = ns.map (Value.int .u8)
  | [], _ => ⟨[], rfl⟩
  | v :: l, h => by
    cases v with
    | int k x =>
      cases k <;> first | (rw [u8L_cons] at h; obtain ⟨ns, rfl⟩ := u8L_ints l h; exact ⟨x :: ns, rfl⟩) | (unfold u8L at h; cases h)
    | _ => unfold u8L at h; cases h
attribute [go_sem] u8L_nil u8L_cons
/-- the numbers are bytes' -/
theorem cv_alloc (b n c : Nat) (w : World) (l : List Value) (hb : b = w.heap.size) (hn : n = l.length) (hu : u8L l = true) :
    (convert 33 9 (.slice (some ⟨b, 0, none⟩) n c)).run Try.prog (w.alloc (.cells l.toArray 5)) = .ok (.string (bytesOf (byL l))) (w.alloc (.cells l.toArray 5)) := by
  obtain ⟨ns, rfl⟩ := u8L_ints l hu
  subst hb
  subst hn
  rw [run_convert_bytes_string _ 33 9 5 _ _ _ Try.underlying33 Try.underlying5 Try.underlying9]
  have hr : row? (w.alloc (.cells (ns.map (Value.int .u8)).toArray 5)) w.heap.size 0 (ns.map (Value.int .u8)).length = some (ns.map (Value.int .u8)).toArray := by
    rw [row_alloc_at _ _ _ _ _ _ _ rfl]; exact rowOf_full _ _ (by simp)
  have hl := run_loadCells_row (P := Try.prog) hr
  rw [run_bytesToString _ ⟨w.heap.size, 0, none⟩ _ c ns hl]
  have hf : ∀ (l : List Int) (s : ByteArray), (l.foldl (fun r n => r.push (UInt8.ofNat n.toNat)) s) = ⟨s.data ++ (l.map fun n => UInt8.ofNat n.toNat).toArray⟩ := by
    intro l
    induction l with
    | nil => intro s; simp
    | cons x l ih =>
      intro s
      rw [List.foldl_cons, ih]
      congr 1
      simp [ByteArray.push]
  rw [hf, bytesOf_def, byL_def]
  congr 2
  simp [ByteArray.empty, ByteArray.emptyWithCapacity, Function.comp_def, cellBy]
  rfl
attribute [go_sem] cv_alloc

theorem bytes_extract (l : List (BitVec 8)) (n : Nat) : (bytesOf l).extract 0 n = bytesOf (l.take n) := by
  rw [bytesOf_def, bytesOf_def]
  apply ByteArray.ext
  rw [ByteArray.data_extract]
  simp [List.map_take]
attribute [go_sem] bytes_extract
theorem byL_length (l : List Value) : (byL l).length = l.length := by rw [byL_def]; simp

def bN (n : Nat) : BitVec 8 := BitVec.ofNat 8 n
def keyText (k : Nat) : List (BitVec 8) :=
  match k % 8 with
  | 0 | 1 | 2 => [bN (97 + k / 8 % 6)]
  | 3 | 4 => [bN (97 + k / 8 % 5), bN (97 + k / 40 % 4)]
  | 5 => [bN (97 + k / 8 % 4), 0, bN (k / 32 % 256), bN (k / 8192 % 4), 255, 120, 121, bN (97 + k / 32768 % 3)]
  | 6 => [bN (98 + k / 8 % 3), 108, 111, 110, 103, 101, 114, bN (48 + k / 24 % 9)]
  | _ => [bN (k / 8 % 256), bN (k / 2048 % 256)].take (k / 524288 % 3)
def lawKey (v : Int) : Key := mkKey (keyText (v % 1099511627776).toNat)

theorem keyText_length (k : Nat) : (keyText k).length ≤ 8 := by
  unfold keyText
  split <;> simp
  omega
theorem by_n (n : Nat) (x : Int) (h : x = (n : Int)) : BitVec.ofNat 8 x.toNat = bN n := by subst h; rfl

set_option maxRecDepth 100000 in
set_option maxHeartbeats 8000000 in
theorem lkey_any (v : Int) (w : World) (hv : -9223372036854775808 ≤ v ∧ v ≤ 9223372036854775807) : Calls Try.prog 43 #[.int .i64 v] w (Is w (.agg (lawKey v).arr)) := by
  obtain ⟨k, hk⟩ : ∃ k : Nat, v % 1099511627776 = (k : Int) := ⟨(v % 1099511627776).toNat, by omega⟩
  have hlt : k < 1099511627776 := by omega
  have hbx : Box (w.alloc (.cells Key.zero.arr 93)) w.heap.size Key.zero.arr 93 := (by repeat (first | with_reducible assumption | with_reducible exact Box.new (by simp) | with_reducible refine Box.past ?_ _ | with_reducible refine Box.drew ?_ | with_reducible refine Box.drewN ?_ _ | refine Box.ext ?_ (by with_reducible assumption)))
  have HB := Lib.hid hbx
  have HK := Lib.hid hk
  have hlk : lawKey v = mkKey (keyText k) := by unfold lawKey; rw [hk]; rfl
  have HL := Lib.hid hlk
  have hlen := keyText_length k
  have HN := Lib.hid hlen
  have hk0 : (0 : Int) ≤ (k : Int) := by omega
  clear hbx hk hlk hlen
  by_cases h0 : (k : Int) % 8 = 0
  · have hby : byL [.int .u8 (97 + (k : Int) / 8 % 6)] = keyText k := by
      rw [byL_def]
      unfold keyText
      rw [show k % 8 = 0 from by omega]
      simp only [List.map_cons, List.map_nil, cellBy]
      repeat (first | rfl | (refine congr (congrArg List.cons (by_n _ _ (by omega))) ?_) | (refine congr (congrArg List.cons rfl) ?_))
    have HY := Lib.hid hby
    clear hby
    go_enter Try.func43, Try.ntmps43
    go_wp2_with fail
    refine (lplace_any _ _ _ (by omega) (by omega) hv).mono ?_
    rintro e w1 ⟨rfl, rfl⟩
    rw [HK.out]
    go_wp2_with fail
    rw [HY.out]
    refine (refkeyof_any _ _).mono ?_
    rintro e w2 ⟨rfl, he2⟩
    rw [if_pos HN.out]
    have hb2 : Box w2 w.heap.size Key.zero.arr 93 := HB.out.ext (((Ext.refl _).alloc _).trans he2)
    have hrow := (hb2.row 0 9).trans (Key.row _)
    have hfree := hb2.free
    have hlt2 := hb2.lt
    go_wp2
    exact bodyPost_ret (results_1 rfl (res_cell (cs := (lawKey v).arr) Try.underlying93 rfl Key.size' rfl (by rw [row_alloc_past _ _ _ _ _ (by rw [putRow_size]; exact hlt2), (hb2.put 0 _).row, Key.put, HL.out]; exact Key.row _))) rfl ⟨rfl, Ext.alloc (Ext.putRow (Ext.trans (((Ext.refl w).alloc _).alloc _) he2) (Nat.le_refl _)) _⟩
  by_cases h1 : (k : Int) % 8 = 1
  · have hby : byL [.int .u8 (97 + (k : Int) / 8 % 6)] = keyText k := by
      rw [byL_def]
      unfold keyText
      rw [show k % 8 = 1 from by omega]
      simp only [List.map_cons, List.map_nil, cellBy]
      repeat (first | rfl | (refine congr (congrArg List.cons (by_n _ _ (by omega))) ?_) | (refine congr (congrArg List.cons rfl) ?_))
    have HY := Lib.hid hby
    clear hby
    go_enter Try.func43, Try.ntmps43
    go_wp2_with fail
    refine (lplace_any _ _ _ (by omega) (by omega) hv).mono ?_
    rintro e w1 ⟨rfl, rfl⟩
    rw [HK.out]
    go_wp2_with fail
    rw [HY.out]
    refine (refkeyof_any _ _).mono ?_
    rintro e w2 ⟨rfl, he2⟩
    rw [if_pos HN.out]
    have hb2 : Box w2 w.heap.size Key.zero.arr 93 := HB.out.ext (((Ext.refl _).alloc _).trans he2)
    have hrow := (hb2.row 0 9).trans (Key.row _)
    have hfree := hb2.free
    have hlt2 := hb2.lt
    go_wp2
    exact bodyPost_ret (results_1 rfl (res_cell (cs := (lawKey v).arr) Try.underlying93 rfl Key.size' rfl (by rw [row_alloc_past _ _ _ _ _ (by rw [putRow_size]; exact hlt2), (hb2.put 0 _).row, Key.put, HL.out]; exact Key.row _))) rfl ⟨rfl, Ext.alloc (Ext.putRow (Ext.trans (((Ext.refl w).alloc _).alloc _) he2) (Nat.le_refl _)) _⟩
  by_cases h2 : (k : Int) % 8 = 2
  · have hby : byL [.int .u8 (97 + (k : Int) / 8 % 6)] = keyText k := by
      rw [byL_def]
      unfold keyText
      rw [show k % 8 = 2 from by omega]
      simp only [List.map_cons, List.map_nil, cellBy]
      repeat (first | rfl | (refine congr (congrArg List.cons (by_n _ _ (by omega))) ?_) | (refine congr (congrArg List.cons rfl) ?_))
    have HY := Lib.hid hby
    clear hby
    go_enter Try.func43, Try.ntmps43
    go_wp2_with fail
    refine (lplace_any _ _ _ (by omega) (by omega) hv).mono ?_
    rintro e w1 ⟨rfl, rfl⟩
    rw [HK.out]
    go_wp2_with fail
    rw [HY.out]
    refine (refkeyof_any _ _).mono ?_
    rintro e w2 ⟨rfl, he2⟩
    rw [if_pos HN.out]
    have hb2 : Box w2 w.heap.size Key.zero.arr 93 := HB.out.ext (((Ext.refl _).alloc _).trans he2)
    have hrow := (hb2.row 0 9).trans (Key.row _)
    have hfree := hb2.free
    have hlt2 := hb2.lt
    go_wp2
    exact bodyPost_ret (results_1 rfl (res_cell (cs := (lawKey v).arr) Try.underlying93 rfl Key.size' rfl (by rw [row_alloc_past _ _ _ _ _ (by rw [putRow_size]; exact hlt2), (hb2.put 0 _).row, Key.put, HL.out]; exact Key.row _))) rfl ⟨rfl, Ext.alloc (Ext.putRow (Ext.trans (((Ext.refl w).alloc _).alloc _) he2) (Nat.le_refl _)) _⟩
  by_cases h3 : (k : Int) % 8 = 3
  · have hby : byL [.int .u8 (97 + (k : Int) / 8 % 5), .int .u8 (97 + (k : Int) / 40 % 4)] = keyText k := by
      rw [byL_def]
      unfold keyText
      rw [show k % 8 = 3 from by omega]
      simp only [List.map_cons, List.map_nil, cellBy]
      repeat (first | rfl | (refine congr (congrArg List.cons (by_n _ _ (by omega))) ?_) | (refine congr (congrArg List.cons rfl) ?_))
    have HY := Lib.hid hby
    clear hby
    go_enter Try.func43, Try.ntmps43
    go_wp2_with fail
    refine (lplace_any _ _ _ (by omega) (by omega) hv).mono ?_
    rintro e w1 ⟨rfl, rfl⟩
    rw [HK.out]
    go_wp2_with fail
    rw [HY.out]
    refine (refkeyof_any _ _).mono ?_
    rintro e w2 ⟨rfl, he2⟩
    rw [if_pos HN.out]
    have hb2 : Box w2 w.heap.size Key.zero.arr 93 := HB.out.ext (((Ext.refl _).alloc _).trans he2)
    have hrow := (hb2.row 0 9).trans (Key.row _)
    have hfree := hb2.free
    have hlt2 := hb2.lt
    go_wp2
    exact bodyPost_ret (results_1 rfl (res_cell (cs := (lawKey v).arr) Try.underlying93 rfl Key.size' rfl (by rw [row_alloc_past _ _ _ _ _ (by rw [putRow_size]; exact hlt2), (hb2.put 0 _).row, Key.put, HL.out]; exact Key.row _))) rfl ⟨rfl, Ext.alloc (Ext.putRow (Ext.trans (((Ext.refl w).alloc _).alloc _) he2) (Nat.le_refl _)) _⟩
  by_cases h4 : (k : Int) % 8 = 4
  · have hby : byL [.int .u8 (97 + (k : Int) / 8 % 5), .int .u8 (97 + (k : Int) / 40 % 4)] = keyText k := by
      rw [byL_def]
      unfold keyText
      rw [show k % 8 = 4 from by omega]
      simp only [List.map_cons, List.map_nil, cellBy]
      repeat (first | rfl | (refine congr (congrArg List.cons (by_n _ _ (by omega))) ?_) | (refine congr (congrArg List.cons rfl) ?_))
    have HY := Lib.hid hby
    clear hby
    go_enter Try.func43, Try.ntmps43
    go_wp2_with fail
    refine (lplace_any _ _ _ (by omega) (by omega) hv).mono ?_
    rintro e w1 ⟨rfl, rfl⟩
    rw [HK.out]
    go_wp2_with fail
    rw [HY.out]
    refine (refkeyof_any _ _).mono ?_
    rintro e w2 ⟨rfl, he2⟩
    rw [if_pos HN.out]
    have hb2 : Box w2 w.heap.size Key.zero.arr 93 := HB.out.ext (((Ext.refl _).alloc _).trans he2)
    have hrow := (hb2.row 0 9).trans (Key.row _)
    have hfree := hb2.free
    have hlt2 := hb2.lt
    go_wp2
    exact bodyPost_ret (results_1 rfl (res_cell (cs := (lawKey v).arr) Try.underlying93 rfl Key.size' rfl (by rw [row_alloc_past _ _ _ _ _ (by rw [putRow_size]; exact hlt2), (hb2.put 0 _).row, Key.put, HL.out]; exact Key.row _))) rfl ⟨rfl, Ext.alloc (Ext.putRow (Ext.trans (((Ext.refl w).alloc _).alloc _) he2) (Nat.le_refl _)) _⟩
  by_cases h5 : (k : Int) % 8 = 5
  · have hby : byL [.int .u8 (97 + (k : Int) / 8 % 4), .int .u8 (0), .int .u8 ((k : Int) / 32 % 256), .int .u8 ((k : Int) / 8192 % 4), .int .u8 (255), .int .u8 (120), .int .u8 (121), .int .u8 (97 + (k : Int) / 32768 % 3)] = keyText k := by
      rw [byL_def]
      unfold keyText
      rw [show k % 8 = 5 from by omega]
      simp only [List.map_cons, List.map_nil, cellBy]
      repeat (first | rfl | (refine congr (congrArg List.cons (by_n _ _ (by omega))) ?_) | (refine congr (congrArg List.cons rfl) ?_))
    have HY := Lib.hid hby
    clear hby
    go_enter Try.func43, Try.ntmps43
    go_wp2_with fail
    refine (lplace_any _ _ _ (by omega) (by omega) hv).mono ?_
    rintro e w1 ⟨rfl, rfl⟩
    rw [HK.out]
    go_wp2_with fail
    rw [HY.out]
    refine (refkeyof_any _ _).mono ?_
    rintro e w2 ⟨rfl, he2⟩
    rw [if_pos HN.out]
    have hb2 : Box w2 w.heap.size Key.zero.arr 93 := HB.out.ext (((Ext.refl _).alloc _).trans he2)
    have hrow := (hb2.row 0 9).trans (Key.row _)
    have hfree := hb2.free
    have hlt2 := hb2.lt
    go_wp2
    exact bodyPost_ret (results_1 rfl (res_cell (cs := (lawKey v).arr) Try.underlying93 rfl Key.size' rfl (by rw [row_alloc_past _ _ _ _ _ (by rw [putRow_size]; exact hlt2), (hb2.put 0 _).row, Key.put, HL.out]; exact Key.row _))) rfl ⟨rfl, Ext.alloc (Ext.putRow (Ext.trans (((Ext.refl w).alloc _).alloc _) he2) (Nat.le_refl _)) _⟩
  by_cases h6 : (k : Int) % 8 = 6
  · have hby : byL [.int .u8 (98 + (k : Int) / 8 % 3), .int .u8 (108), .int .u8 (111), .int .u8 (110), .int .u8 (103), .int .u8 (101), .int .u8 (114), .int .u8 (48 + (k : Int) / 24 % 9)] = keyText k := by
      rw [byL_def]
      unfold keyText
      rw [show k % 8 = 6 from by omega]
      simp only [List.map_cons, List.map_nil, cellBy]
      repeat (first | rfl | (refine congr (congrArg List.cons (by_n _ _ (by omega))) ?_) | (refine congr (congrArg List.cons rfl) ?_))
    have HY := Lib.hid hby
    clear hby
    go_enter Try.func43, Try.ntmps43
    go_wp2_with fail
    refine (lplace_any _ _ _ (by omega) (by omega) hv).mono ?_
    rintro e w1 ⟨rfl, rfl⟩
    rw [HK.out]
    go_wp2_with fail
    rw [HY.out]
    refine (refkeyof_any _ _).mono ?_
    rintro e w2 ⟨rfl, he2⟩
    rw [if_pos HN.out]
    have hb2 : Box w2 w.heap.size Key.zero.arr 93 := HB.out.ext (((Ext.refl _).alloc _).trans he2)
    have hrow := (hb2.row 0 9).trans (Key.row _)
    have hfree := hb2.free
    have hlt2 := hb2.lt
    go_wp2
    exact bodyPost_ret (results_1 rfl (res_cell (cs := (lawKey v).arr) Try.underlying93 rfl Key.size' rfl (by rw [row_alloc_past _ _ _ _ _ (by rw [putRow_size]; exact hlt2), (hb2.put 0 _).row, Key.put, HL.out]; exact Key.row _))) rfl ⟨rfl, Ext.alloc (Ext.putRow (Ext.trans (((Ext.refl w).alloc _).alloc _) he2) (Nat.le_refl _)) _⟩
  have h7 : (k : Int) % 8 = 7 := by omega
  have hb0 : (0 : Int) ≤ (k : Int) / 524288 % 3 := by omega
  have hb3 : (k : Int) / 524288 % 3 ≤ 2 := by omega
  have hsz : (bytesOf (byL [.int .u8 ((k : Int) / 8 % 256), .int .u8 ((k : Int) / 2048 % 256)])).size = 2 := by rw [bytesOf_size, byL_length]; rfl
  have hby : (byL [.int .u8 ((k : Int) / 8 % 256), .int .u8 ((k : Int) / 2048 % 256)]).take (k / 524288 % 3) = keyText k := by
    rw [byL_def]
    unfold keyText
    rw [show k % 8 = 7 from by omega]
    simp only [List.map_cons, List.map_nil, cellBy]
    rw [by_n (k / 8 % 256) _ (by omega), by_n (k / 2048 % 256) _ (by omega)]
  have HY := Lib.hid hby
  clear hby
  go_enter Try.func43, Try.ntmps43
  go_wp2_with fail
  refine (lplace_any _ _ _ (by omega) (by omega) hv).mono ?_
  rintro e w1 ⟨rfl, rfl⟩
  rw [HK.out]
  go_wp2_with fail
  rw [HY.out]
  refine (refkeyof_any _ _).mono ?_
  rintro e w2 ⟨rfl, he2⟩
  rw [if_pos HN.out]
  have hb2 : Box w2 w.heap.size Key.zero.arr 93 := HB.out.ext (((Ext.refl _).alloc _).trans he2)
  have hrow := (hb2.row 0 9).trans (Key.row _)
  have hfree := hb2.free
  have hlt2 := hb2.lt
  go_wp2
  exact bodyPost_ret (results_1 rfl (res_cell (cs := (lawKey v).arr) Try.underlying93 rfl Key.size' rfl (by rw [row_alloc_past _ _ _ _ _ (by rw [putRow_size]; exact hlt2), (hb2.put 0 _).row, Key.put, HL.out]; exact Key.row _))) rfl ⟨rfl, Ext.alloc (Ext.putRow (Ext.trans (((Ext.refl w).alloc _).alloc _) he2) (Nat.le_refl _)) _⟩
end Go.Proofs.Ytphojngdgmnpaaa

namespace Go.Proofs.Ytphojngdgmnpaaa
open Go Go.RowKit
set_option linter.unusedVariables false
set_option linter.unusedSimpArgs false
set_option maxRecDepth 100000

def keysA (l : List Key) : AV := .sl none 9 (l.map Key.av)
def intsA (l : List Int) : AV := .sl none 1 (l.map intA)
def bytesA (l : List (BitVec 8)) : AV := .sl none 1 (l.map byteA)
def msgsA (l : List Msg) : AV := .sl none 29 (l.map Msg.av)
def entsA (l : List Ent) : AV := .sl none 26 (l.map Ent.av)
theorem a_keycmp (a b : Key) : AFn Try.prog 72 [a.av, b.av] (intA (keyCmp a b)) := fun U w vs h => by
  obtain ⟨v1, us, rfl, h1, h⟩ := rdp_one h
  obtain ⟨v2, us, rfl, h2, h⟩ := rdp_one h
  obtain rfl := rdp_nil h
  rw [dKey.rdv.1 h1, dKey.rdv.1 h2]
  exact ofIs (keycmp_any a b w) fun w' => is_v (w := w) rfl
theorem a_refcmp (a b : Key) : AFn Try.prog 66 [a.av, b.av] (intA (refCmp a b)) := fun U w vs h => by
  obtain ⟨v1, us, rfl, h1, h⟩ := rdp_one h
  obtain ⟨v2, us, rfl, h2, h⟩ := rdp_one h
  obtain rfl := rdp_nil h
  rw [dKey.rdv.1 h1, dKey.rdv.1 h2]
  exact ofIs (refkeycmp_any a b w) fun w' => is_v (w := w) rfl
theorem a_refvlcheck (a : Vl) : AFn Try.prog 59 [a.av] (boolA a.ok) := fun U w vs h => by
  obtain ⟨v1, us, rfl, h1, h⟩ := rdp_one h
  obtain rfl := rdp_nil h
  rw [dVl.rdv.1 h1]
  exact ofIs (refvlcheck_any a w) fun w' => is_v (w := w) rfl
theorem u64_arg {U : Uns} {w : World} {B : Blk} {H : Hp} {n : BitVec 64} {v : Value} (h : Rdv U w B H (u64A n) v) : v = .int .u64 (D64 n) := (Rdv_v.1 h).2
theorem int_arg {U : Uns} {w : World} {B : Blk} {H : Hp} {n : Int} {v : Value} (h : Rdv U w B H (intA n) v) : v = .int .i64 n := (Rdv_v.1 h).2
theorem a_plus (a : Vl) (n : BitVec 64) : AFn Try.prog 73 [a.av, u64A n] (vplus a n).av := fun U w vs h => by
  obtain ⟨v1, us, rfl, h1, h⟩ := rdp_one h
  obtain ⟨v2, us, rfl, h2, h⟩ := rdp_one h
  obtain rfl := rdp_nil h
  rw [dVl.rdv.1 h1, u64_arg h2]
  exact ofIs (plus_any a n w) fun w' => dVl.rdv.2 rfl
theorem a_refplus (a : Vl) (n : BitVec 64) : AFn Try.prog 71 [a.av, u64A n] (vplus a n).av := fun U w vs h => by
  obtain ⟨v1, us, rfl, h1, h⟩ := rdp_one h
  obtain ⟨v2, us, rfl, h2, h⟩ := rdp_one h
  obtain rfl := rdp_nil h
  rw [dVl.rdv.1 h1, u64_arg h2]
  exact ofIs (refplus_any a n w) fun w' => dVl.rdv.2 rfl
theorem a_lkey (v : Int) (hv : -9223372036854775808 ≤ v ∧ v ≤ 9223372036854775807) : AFn Try.prog 43 [intA v] (lawKey v).av := fun U w vs h => by
  obtain ⟨v1, us, rfl, h1, h⟩ := rdp_one h
  obtain rfl := rdp_nil h
  rw [int_arg h1]
  exact ofIs (lkey_any v w hv) fun w' => dKey.rdv.2 rfl
end Go.Proofs.Ytphojngdgmnpaaa

namespace Go.Proofs.Ytphojngdgmnpaaa
open Go Go.RowKit
set_option linter.unusedVariables false
set_option linter.unusedSimpArgs false
set_option maxRecDepth 100000

section
variable {E : Env} {nt : Nat} {ops : Array Oper} {T : Nat → Option AV} {H : Hp} {d : Option Nat} {ty : TypeId} {pos : String} {af : Array Edge} {gd : Option (Nat × Bool)}
theorem wrap_u8' (n : Int) : IntKind.u8.wrap n = n % 256 := by simp [IntKind.wrap, IntKind.bits, IntKind.signed]
/-- an int as a byte -/
theorem o_convb {s t : TypeId} {x : Operand} {n : Int} (hs : ∃ u, Try.prog.underlying s = some u) (ht : Try.prog.underlying t = some (.int .u8)) (hd : dOk nt d = true) (hx : evalO T x = some (.v (.int .i64 n))) : OpOK Try.prog E nt ops ⟨d, .convert s t x, ty, pos, af, gd⟩ T H [] ⟨byteA (BitVec.ofInt 8 n), []⟩ :=
  ok_conv_i hs ht hd hx (by rw [B8_def, BitVec.toNat_ofInt, wrap_u8']; omega)
theorem o_convu {s t : TypeId} {x : Operand} {n : Int} (hs : ∃ u, Try.prog.underlying s = some u) (ht : Try.prog.underlying t = some (.int .u64)) (hd : dOk nt d = true) (hx : evalO T x = some (.v (.int .i64 n))) : OpOK Try.prog E nt ops ⟨d, .convert s t x, ty, pos, af, gd⟩ T H [] ⟨u64A (BitVec.ofInt 64 n), []⟩ :=
  ok_conv_i hs ht hd hx (by rw [D64_def, BitVec.toNat_ofInt, wrap_u64']; omega)
theorem D64_mul (x y : BitVec 64) : IntKind.u64.wrap (D64 x * D64 y) = D64 (x * y) := by
  rw [wrap_u64', D64_def, D64_def, D64_def, BitVec.toNat_mul, ← Int.natCast_mul]
  omega
theorem o_mulu {t t' : TypeId} {x y : Operand} {a : BitVec 64} {c : Int} (hd : dOk nt d = true) (hx : evalO T x = some (.v (.int .u64 (D64 a)))) (hy : evalO T y = some (.v (.int .u64 c))) (h0 : 0 ≤ c ∧ c < 18446744073709551616) : OpOK Try.prog E nt ops ⟨d, .binOp .mul t x y t', ty, pos, af, gd⟩ T H [] ⟨u64A (a * BitVec.ofInt 64 c), []⟩ := by
  have := D64_ofInt c h0.1 h0.2
  rw [← this] at hy
  exact ok_mul hd hx hy (D64_mul a _)
/-- a row of bytes as a string -/
theorem bytes_row {U : Uns} {w : World} {B : Blk} {H : Hp} : ∀ {l : List (BitVec 8)} {c : List Value}, Rdu U w 1 (l.map byteA) B H c → c = (l.map fun b => Int.ofNat b.toNat).map (Value.int .u8)
  | [], c, h => by simpa [Rdu] using h
  | b :: l, c, h => by
    simp only [List.map_cons, Rdu] at h
    obtain ⟨c1, c2, rfl, h1, h2, h3⟩ := h
    rw [bytes_row h3]
    simp only [byteA, Rd] at h2
    rw [h2.2, B8_def]
    simp
theorem foldl_push (l : List (BitVec 8)) : (l.map fun b => Int.ofNat b.toNat).foldl (fun r n => r.push (UInt8.ofNat n.toNat)) ByteArray.empty = bytesOf l := by
  have hf : ∀ (l : List (BitVec 8)) (s : ByteArray), ((l.map fun b => Int.ofNat b.toNat).foldl (fun r n => r.push (UInt8.ofNat n.toNat)) s) = ⟨s.data ++ (l.map fun b => UInt8.ofNat b.toNat).toArray⟩ := by
    intro l
    induction l with
    | nil => intro s; simp
    | cons x l ih =>
      intro s
      rw [List.map_cons, List.foldl_cons, ih]
      congr 1
      simp [ByteArray.push]
  rw [hf, bytesOf_def]
  congr 1
  simp only [ByteArray.empty, ByteArray.emptyWithCapacity]
  have hm : (l.map fun b => UInt8.ofNat b.toNat) = l.map UInt8.ofBitVec := List.map_congr_left fun b _ => by
    apply UInt8.eq_of_toBitVec_eq
    simp
  rw [hm]
  apply Array.ext'
  rw [Array.toList_append]
  rfl
theorem o_convs {s t e : TypeId} {x : Operand} {tok : Option Nat} {l : List (BitVec 8)} (hs : Try.prog.underlying s = some (.slice e)) (he : Try.prog.underlying e = some (.int .u8)) (ht : Try.prog.underlying t = some .string) (hd : dOk nt d = true) (hx : evalO T x = some (.sl tok 1 (l.map byteA))) : OpOK Try.prog E nt ops ⟨d, .convert s t x, ty, pos, af, gd⟩ T H [] ⟨.v (.string (bytesOf l)), []⟩ :=
  ok_val hd fun B T' H' a w r hto hh => by
    have h := Rdv_one (by simp) (r.eval ((hto x (by simp [Op.operands])).trans hx)) rfl
    simp only [Rd] at h
    obtain ⟨A, cap, h1, h2, h3, h4, _⟩ := h
    injection h1 with h1
    refine ⟨.string (bytesOf l), ?_, by rw [Rdv_v]; exact ⟨rfl, rfl⟩⟩
    have hcv := run_convert_bytes_string (P := Try.prog) w s t e A (l.map byteA).length cap hs he ht
    simp only [execOp, h1, hcv, Sem.run_bind]
    by_cases h0 : 0 < (l.map byteA).length
    · obtain ⟨b, off, c, rfl, k1, _, k3⟩ := h4 h0
      have hc := bytes_row k3
      rw [Nat.mul_one] at k1
      have hl := run_loadCells_row (P := Try.prog) k1
      rw [hc] at hl
      rw [run_bytesToString w _ _ cap _ hl, foldl_push]
      rfl
    · have hl0 : l = [] := by cases l with
        | nil => rfl
        | cons a l => simp at h0
      subst hl0
      have hlc : (loadCells ⟨0, 0, none⟩ 0).run Try.prog w = .ok #[] w := by simp [loadCells, loadCellsFrom]
      cases A with
      | none => simp [Conv.bytesToString, bytesOf_def]; rfl
      | some a =>
        have := run_bytesToString (P := Try.prog) w a 0 cap [] (by simp [loadCells, loadCellsFrom])
        rw [List.length_map, List.length_nil, this]
        simp [bytesOf_def]
        rfl
/-- a made row, as the image of a list -/
theorem o_make {α : Type} {f : α → AV} {x0 : α} {t e : TypeId} {es bytes : Nat} {ea : Bool} {x y : Operand} {k k' : IntKind} {n : Nat} {g : Nat} (hd : dOk nt (some g) = true) (hs : tabT.ti t = some (.sl e (es + 1) bytes ea)) (hz : zeroT e = some (f x0)) (hx : evalO T x = some (.v (.int k (n : Nat)))) (hy : evalO T y = some (.v (.int k' (n : Nat)))) (hg : H g = none) (hb : bytes * n ≤ 140737488355328) (hn : n ≤ 9223372036854775807) :
    OpOK Try.prog E nt ops ⟨some g, .makeSlice t x y, ty, pos, af, gd⟩ T H [] ⟨.seg g 0 (es + 1) [] n n, [(g, .var (.arr (n * (es + 1)) (es + 1) ((List.replicate n x0).map f)))]⟩ := by
  rw [List.map_replicate]
  exact ok_make tabT hd hs (zeroT_ok hz) hx hy hg hb hn
theorem o_idxs {x ix : Operand} {t e : TypeId} {es bytes : Nat} {ea : Bool} {g off len cap : Nat} {p : List Nat} {k : IntKind} {i : Nat} (hd : dOk nt d = true) (hs : tabT.ti t = some (.sl e es bytes ea)) (hx : evalO T x = some (.seg g off es p len cap)) (hi : evalO T ix = some (.v (.int k (i : Nat)))) (hl : i < len) :
    OpOK Try.prog E nt ops ⟨d, .indexAddr t x ix, ty, pos, af, gd⟩ T H [] ⟨.ptr g (off + i * es) (p ++ [i]), []⟩ := ok_idx_seg tabT hd hs hx hi hl
/-- an element of a made row stored -/
theorem o_stm {α : Type} {f : α → AV} {xs : List α} {b : α} {x y : Operand} {t : TypeId} {g m es i : Nat} (hx : evalO T x = some (.ptr g (0 + i * es) ([] ++ [i]))) (hy : evalO T y = some (f b)) (hg : H g = some (.var (.arr m es (xs.map f)))) (hi : i < xs.length)
    (hs : tabT.sa t = some (isAggA (f b), es)) (hsz : sizeA (f b) = es) (hsa : ∀ a, sizeA (f a) = es) (hdt : dataA (f b) = true) (hnt : notTup (f b) = true) :
    OpOK Try.prog E nt ops ⟨none, .store t x y, ty, pos, af, gd⟩ T H [] ⟨.tup [], [(g, .var (.arr m es ((xs.set i b).map f)))]⟩ := by
  have hsub : subA ([] ++ [i]) (.arr m es (xs.map f)) = some (f xs[i]) := by simp [subA, hi]
  have hoff : offA ([] ++ [i]) (.arr m es (xs.map f)) = 0 + i * es := by simp [offA]
  have hset : setA (f b) ([] ++ [i]) (.arr m es (xs.map f)) = some (.arr m es ((xs.set i b).map f)) := by simp [setA, hi, hdt, List.map_set]
  exact ok_store tabT (d := none) rfl hx hy hg hsub hoff hset (by rw [hsz]; exact hs) (by rw [hsz, hsa]) hnt
end
end Go.Proofs.Ytphojngdgmnpaaa

namespace Go.Proofs.Ytphojngdgmnpaaa
open Go Go.RowKit
set_option linter.unusedVariables false
set_option linter.unusedSimpArgs false
set_option maxRecDepth 100000
set_option linter.unusedSectionVars false

section
variable {P : Program} {E : Env} {nt : Nat} {B : Blk} {T : Nat → Option AV} {H : Hp} {a : Act} {w : World}
/-- a new own row -/
theorem Rel.newOwn (r : Rel E nt B T H a w) {g es : Nat} {e : TypeId} {ys : List AV} {cs : List Value} (hg : H g = none) (hn : 0 < es) (hy : Rdu (unst E B H) w es ys B0 H0 cs) (hm : ys.length ≤ maxLen) :
    Rel E nt (upd B g w.heap.size) T (upd H g (.own e es ys)) a (w.alloc (.cells cs.toArray e)) ∧ OwnOk (w.alloc (.cells cs.toArray e)) (upd B g w.heap.size) (upd H g (.own e es ys)) g es ys.length .row (.slice (some ⟨w.heap.size, 0, none⟩) ys.length ys.length) := by
  have hlt : ∀ j bj b, H j = some bj → B j = some b → b < w.heap.size := fun j bj b h1 h2 => r.blk_lt h1 h2
  have hcl := Rdu_len hy
  refine ⟨r.new hg ⟨hn, Tie.none (r.keep _ hg), .inr ⟨w.heap.size, cs.toArray, ys.length, cs, upd_same _ _ _, heap_alloc_new w _, by simpa using hcl, Nat.le_refl _, hm, fun o _ => by simp, Rdu_go (Evo.ofExt ((Ext.refl w).alloc _)) (unst_new hlt) _ ys (Pic.refl0 _ _) hy, .inl r.left.size⟩⟩, ⟨e, ys, upd_same _ _ _, Nat.le_refl _, rfl, fun _ => ⟨fun h => ?_, fun b hb => ?_⟩⟩⟩
  · rw [upd_same] at h; cases h
  · rw [upd_same] at hb; injection hb with hb; subst hb
    exact ⟨cs.toArray, heap_alloc_new w _, ys.length, rfl, Nat.le_refl _, hm, by simpa using hcl⟩
theorem own_slice (r : Rel E nt B T H a w) {g n len : Nat} {e : TypeId} {xs : List AV} {v : Value} (h : OwnOk w B H g n len .row v) (hg : H g = some (.own e n xs)) (hl : len = xs.length) :
    ∃ A cap, v = .slice A xs.length cap ∧ xs.length ≤ cap ∧ cap ≤ maxLen := by
  obtain ⟨hn1, hn2⟩ := h.now hg hl
  subst hl
  obtain ⟨hpos, hbox⟩ := r.ownAt hg
  rcases hbox with ⟨k1, k2⟩ | ⟨b, cur, cp, c, k1, _⟩
  · subst k2; exact ⟨none, 0, hn1 k1, Nat.le_refl _, Nat.zero_le _⟩
  · obtain ⟨cu, _, cap, q1, q2, q3, _⟩ := hn2 b k1
    exact ⟨_, cap, q1, q2, q3⟩
end
section
variable {E : Env} {nt : Nat} {ops : Array Oper} {T : Nat → Option AV} {H : Hp} {d : Option Nat} {ty : TypeId} {pos : String} {af : Array Edge} {gd : Option (Nat × Bool)}
theorem ok_len_own {x : Operand} {t e e' : TypeId} {es bytes : Nat} {ea : Bool} {g n len : Nat} {xs : List AV} (hs : tabT.ti t = some (.sl e es bytes ea)) (hd : dOk nt d = true) (hx : evalO T x = some (.own g n len .row)) (hg : H g = some (.own e' n xs)) (hl : len = xs.length) :
    OpOK Try.prog E nt ops ⟨d, .call { callee := .builtin .len, args := #[x], argTypes := #[t] }, ty, pos, af, gd⟩ T H [g] ⟨.v (.int .i64 (len : Nat)), []⟩ :=
  ok_val hd fun B T' H' a w r ht hh => by
    have hg' := (hh g (by simp)).trans hg
    obtain ⟨A, cap, hv, _⟩ := own_slice r (own_v (r.eval ((ht x (by simp [Op.operands, Call.operands])).trans hx))) hg' hl
    refine ⟨.int .i64 (len : Nat), ?_, by rw [Rdv_v]; exact ⟨rfl, rfl⟩⟩
    have hu := (tabT.ok t _ hs).2.1
    simp [execOp, resolve, invoke, builtin, hv, hl, Builtin.len_, run_underlying hu, goInt]
/-- make: so many zero elements, an own row -/
theorem ok_make_own {t e : TypeId} {es bytes : Nat} {ea : Bool} {x y : Operand} {k k' : IntKind} {n : Nat} {z : AV} {g : Nat} (hd : dOk nt d = true) (hs : tabT.ti t = some (.sl e (es + 1) bytes ea)) (hz : zeroT e = some z) (hx : evalO T x = some (.v (.int k (n : Nat)))) (hy : evalO T y = some (.v (.int k' (n : Nat)))) (hg : H g = none) (hb : bytes * n ≤ 140737488355328) (hn : n ≤ 9223372036854775807) :
    OpOK Try.prog E nt ops ⟨d, .makeSlice t x y, ty, pos, af, gd⟩ T H [] ⟨.own g (es + 1) n .row, [(g, .own e (es + 1) (List.replicate n z))]⟩ :=
  ok_eff hd fun B T' H' a w r ht hh hw' => by
    have hg' : H' g = none := (hw' (g, .own e (es + 1) (List.replicate n z)) (by simp)).trans hg
    have e1 := r.evalv ((ht x (by simp [Op.operands])).trans hx)
    have e2 := r.evalv ((ht y (by simp [Op.operands])).trans hy)
    obtain ⟨_, hu, hte, i, zv, z1, z2, z3, z4, z5⟩ := tabT.ok t _ hs
    obtain ⟨i', zv', y1, y2, y3⟩ := zeroT_ok hz
    rw [z1] at y1; injection y1 with y1; subst y1
    rw [z2] at y2; injection y2 with y2; subst y2
    have hrun := run_make (P := Try.prog) w t e i zv hu z1 z2 k k' n n (by omega) (Int.le_refl _) (by rw [z4]; exact imul_le _ _ hb) (by omega)
    simp only [Int.toNat_natCast, z3] at hrun
    have hm := made_rdu (U := unst E B H') (w := w) (y3 _ _) (by rw [z5]; omega) n
    rw [z5] at hm
    obtain ⟨q1, q2⟩ := r.newOwn (e := e) hg' (Nat.succ_pos es) hm (by rw [List.length_replicate]; unfold maxLen; omega)
    rw [Array.toArray_toList, List.length_replicate] at q2
    rw [Array.toArray_toList] at q1
    refine ⟨_, _, _, ?_, q1, own_i q2⟩
    simp [execOp, e1, e2, hrun]
end
end Go.Proofs.Ytphojngdgmnpaaa

namespace Go.Proofs.Ytphojngdgmnpaaa
open Go Go.RowKit
set_option linter.unusedVariables false
set_option linter.unusedSimpArgs false
set_option maxRecDepth 100000

theorem beq_bytes {a b : ByteArray} : (a == b) = true ↔ a = b := by
  cases a with | mk x => cases b with | mk y =>
  show ((x == y) = true) ↔ _
  rw [beq_iff_eq, ByteArray.mk.injEq]
/-! ### api.Op -/
structure Opn where
  kind : Int
  key : ByteArray
  val : ByteArray
  add : BitVec 64
def Opn.beq (a b : Opn) : Bool := a.kind == b.kind && a.key == b.key && a.val == b.val && a.add == b.add
theorem Opn.beq_iff {a b : Opn} : a.beq b = true ↔ a = b := by
  cases a; cases b
  simp [Opn.beq, and_assoc, beq_bytes]
instance : DecidableEq Opn := fun a b => decidable_of_iff (a.beq b = true) Opn.beq_iff
theorem Opn.beq_dec (a b : Opn) : a.beq b = decide (a = b) := by rw [Bool.eq_iff_iff, Opn.beq_iff, decide_eq_true_eq]
@[irreducible] def Opn.arr (s : Opn) : Array Value := cat (cat (cat (cel (.int .i64 s.kind)) (cel (.string s.key))) (cel (.string s.val))) (cel (.int .u64 (D64 s.add)))
theorem Opn.arr_def (s : Opn) : s.arr = cat (cat (cat (cel (.int .i64 s.kind)) (cel (.string s.key))) (cel (.string s.val))) (cel (.int .u64 (D64 s.add))) := by unfold Opn.arr; rfl
theorem Opn.arr_size (s : Opn) : s.arr.size = 4 := by rw [Opn.arr_def]; simp [cat_size, cel_size, ]
theorem Opn.arr_one (s : Opn) : oneCells s.arr = true := by rw [Opn.arr_def]; simp [oneCells_cat, oneCells_cel, Value.oneCell']
theorem Opn.put (s x : Opn) : splice s.arr 0 x.arr = x.arr := splice_full _ _ (by rw [Opn.arr_size, Opn.arr_size])
theorem Opn.row (s : Opn) : rowOf s.arr 0 4 = some s.arr := rowOf_full _ _ s.arr_size
theorem Opn.arr_kind (s : Opn) : s.arr[0]? = some (.int .i64 s.kind) := by
  refine get_of_row ?_; rw [Opn.arr_def]; simp [rowOf_cat_left, rowOf_cat_right, rowOf_here, cat_size, cel_size]
theorem Opn.get_kind (s : Opn) (hs : 0 < s.arr.size) : s.arr[0]'hs = .int .i64 s.kind := (Array.getElem?_eq_some_iff.1 (Opn.arr_kind s)).2
theorem Opn.put_kind (s : Opn) (x : Int) : splice s.arr 0 #[.int .i64 x] = ({ s with kind := x } : Opn).arr := by rw [Opn.arr_def, Opn.arr_def, ← cel_def]; simp [splice_cat_left, splice_cat_right, splice_all, cat_size, cel_size]
theorem Opn.set_kind (s : Opn) (x : Int) : s.arr.setIfInBounds 0 (.int .i64 x) = ({ s with kind := x } : Opn).arr := (splice_single _ _ _ (by rw [Opn.arr_size]; omega)).symm.trans (Opn.put_kind s x)
theorem Opn.arr_key (s : Opn) : s.arr[1]? = some (.string s.key) := by
  refine get_of_row ?_; rw [Opn.arr_def]; simp [rowOf_cat_left, rowOf_cat_right, rowOf_here, cat_size, cel_size]
theorem Opn.get_key (s : Opn) (hs : 1 < s.arr.size) : s.arr[1]'hs = .string s.key := (Array.getElem?_eq_some_iff.1 (Opn.arr_key s)).2
theorem Opn.put_key (s : Opn) (x : ByteArray) : splice s.arr 1 #[.string x] = ({ s with key := x } : Opn).arr := by rw [Opn.arr_def, Opn.arr_def, ← cel_def]; simp [splice_cat_left, splice_cat_right, splice_all, cat_size, cel_size]
theorem Opn.set_key (s : Opn) (x : ByteArray) : s.arr.setIfInBounds 1 (.string x) = ({ s with key := x } : Opn).arr := (splice_single _ _ _ (by rw [Opn.arr_size]; omega)).symm.trans (Opn.put_key s x)
theorem Opn.arr_val (s : Opn) : s.arr[2]? = some (.string s.val) := by
  refine get_of_row ?_; rw [Opn.arr_def]; simp [rowOf_cat_left, rowOf_cat_right, rowOf_here, cat_size, cel_size]
theorem Opn.get_val (s : Opn) (hs : 2 < s.arr.size) : s.arr[2]'hs = .string s.val := (Array.getElem?_eq_some_iff.1 (Opn.arr_val s)).2
theorem Opn.put_val (s : Opn) (x : ByteArray) : splice s.arr 2 #[.string x] = ({ s with val := x } : Opn).arr := by rw [Opn.arr_def, Opn.arr_def, ← cel_def]; simp [splice_cat_left, splice_cat_right, splice_all, cat_size, cel_size]
theorem Opn.set_val (s : Opn) (x : ByteArray) : s.arr.setIfInBounds 2 (.string x) = ({ s with val := x } : Opn).arr := (splice_single _ _ _ (by rw [Opn.arr_size]; omega)).symm.trans (Opn.put_val s x)
theorem Opn.arr_add (s : Opn) : s.arr[3]? = some (.int .u64 (D64 s.add)) := by
  refine get_of_row ?_; rw [Opn.arr_def]; simp [rowOf_cat_left, rowOf_cat_right, rowOf_here, cat_size, cel_size]
theorem Opn.get_add (s : Opn) (hs : 3 < s.arr.size) : s.arr[3]'hs = .int .u64 (D64 s.add) := (Array.getElem?_eq_some_iff.1 (Opn.arr_add s)).2
theorem Opn.put_add (s : Opn) (x : BitVec 64) : splice s.arr 3 #[.int .u64 (D64 x)] = ({ s with add := x } : Opn).arr := by rw [Opn.arr_def, Opn.arr_def, ← cel_def]; simp [splice_cat_left, splice_cat_right, splice_all, cat_size, cel_size]
theorem Opn.set_add (s : Opn) (x : BitVec 64) : s.arr.setIfInBounds 3 (.int .u64 (D64 x)) = ({ s with add := x } : Opn).arr := (splice_single _ _ _ (by rw [Opn.arr_size]; omega)).symm.trans (Opn.put_add s x)
def Opn.zero : Opn := { kind := 0, key := .empty, val := .empty, add := 0#64 }
theorem Opn.zero_kind : Opn.zero.kind = 0 := rfl
theorem Opn.zero_key : Opn.zero.key = .empty := rfl
theorem Opn.zero_val : Opn.zero.val = .empty := rfl
theorem Opn.zero_add : Opn.zero.add = 0#64 := rfl
theorem Opn.zero_arr : Opn.zero.arr = #[.int .i64 0, .string .empty, .string .empty, .int .u64 0] := by rw [Opn.arr_def]; simp [cat_def, cel_def, Opn.zero, bArr_zero, D64_zero]
theorem Opn.info : (Try.prog.info? 38).map (fun i => (i.zero, i.size)) = some (some (.agg Opn.zero.arr), 4) := by rw [Opn.zero_arr]; kernel_rfl
theorem Opn.size' : (Try.prog.info? 38).map (·.size) = some 4 := by kernel_rfl
theorem Opn.ld (v : Value) : Instr.loadAt 38 v = ldRow 38 v := ldRow_eq _ _
theorem Opn.st (a v : Value) : Instr.storeAt 38 a v = stRow 38 a v := stRow_eq _ _ _
theorem Opn.al (h : Bool) (v : Value) : Instr.alloc 38 h v = alRow 38 h v := alRow_eq _ _ _
theorem Opn.bd (ps : Array (Nat × Value)) : Instr.build 38 ps = bdRow 38 ps := bdRow_eq _ _
theorem Opn.load (b off : Nat) (w : World) : (ldRow 38 (.pointer (some ⟨b, off, none⟩))).run Try.prog w = onRow (row? w b off 4) w ((ldRow' 38 (.pointer (some ⟨b, off, none⟩))).run Try.prog w) :=
  run_ldRow Try.underlying38 rfl Opn.size' b off w
theorem Opn.store (b off : Nat) (s : Opn) (w : World) : (stRow 38 (.pointer (some ⟨b, off, none⟩)) (.agg s.arr)).run Try.prog w = onPut ((row? w b off 4).isSome && free? w b) (.ok () (putRow w b off s.arr)) ((stRow' 38 (.pointer (some ⟨b, off, none⟩)) (.agg s.arr)).run Try.prog w) :=
  run_stRow Opn.size' b off _ w s.arr_size s.arr_one
theorem Opn.alloc (w : World) (v : Value) : (alRow 38 true v).run Try.prog w = .ok (.pointer (some ⟨w.heap.size, 0, none⟩)) (w.alloc (.cells Opn.zero.arr 38)) :=
  run_alRow (z := .agg Opn.zero.arr) (zero_of_info Opn.info) w v
theorem Opn.fields : (Try.prog.fieldsOf 38).toList.map (fun f => (f.name == "_", f.type, f.offset)) = [(false, 3, 0), (false, 9, 1), (false, 9, 2), (false, 36, 3)] := by kernel_rfl
theorem Opn.under : Try.prog.underlying 38 = some (.struct (Try.prog.fieldsOf 38)) := by kernel_rfl
theorem Opn.eq_ (d : Nat) (a b : Opn) (w : World) : (Op.equalIn (d + 2) 38 (.agg a.arr) (.agg b.arr)).run Try.prog w = .ok (a.beq b) w := by
  have h := run_eq_struct Opn.under (by kernel_rfl) Opn.fields (EqFs.cons (EqF.int (d := d) Try.underlying3 (Opn.arr_kind a) (Opn.arr_kind b)) (EqFs.cons (EqF.str (d := d) Try.underlying9 (Opn.arr_key a) (Opn.arr_key b)) (EqFs.cons (EqF.str (d := d) Try.underlying9 (Opn.arr_val a) (Opn.arr_val b)) (EqFs.cons (EqF.u64 (d := d) Try.underlying36 (Opn.arr_add a) (Opn.arr_add b)) EqFs.nil)))) w
  exact h.trans (by simp [Opn.beq, Bool.and_assoc])
theorem Opn.eqG : Try.prog.eqGuardType Try.prog.depth 38 = false := by kernel_rfl
theorem Opn.eql (a b : Opn) (w : World) : (binOp .eql 38 (.agg a.arr) (.agg b.arr)).run Try.prog w = .ok (.bool (decide (a = b))) w := by
  rw [run_eql_struct]; rw [show (10000 : Nat) = 9998 + 2 from rfl, Opn.eq_, Opn.beq_dec]; rfl
theorem Opn.neq (a b : Opn) (w : World) : (binOp .neq 38 (.agg a.arr) (.agg b.arr)).run Try.prog w = .ok (.bool (!decide (a = b))) w := by
  rw [run_neq_struct]; rw [show (10000 : Nat) = 9998 + 2 from rfl, Opn.eq_, Opn.beq_dec]; rfl
def Opn.place : Nat → Option (Nat × Nat)
  | 0 => some (0, 1)
  | 1 => some (1, 1)
  | 2 => some (2, 1)
  | 3 => some (3, 1)
  | _ => none
theorem Opn.places : (Try.prog.fieldsOf 38).toList.mapM (fun f => (Try.prog.info? f.type).map fun i => (f.offset, i.size)) = some [(0, 1), (1, 1), (2, 1), (3, 1)] := by kernel_rfl
theorem Opn.build (ps : List (Nat × Value)) (w : World) : (bdRow 38 ps.toArray).run Try.prog w = onRow (fillS Opn.place Opn.zero.arr ps) w ((bdRow' 38 ps.toArray).run Try.prog w) :=
  run_bdRow Opn.under (zero_of_info Opn.info) Opn.places (fun i => by match i with | 0 => rfl | 1 => rfl | 2 => rfl | 3 => rfl | n + 4 => rfl) ps w
theorem Opn.place0 : Opn.place 0 = some (0, 1) := rfl
theorem Opn.place1 : Opn.place 1 = some (1, 1) := rfl
theorem Opn.place2 : Opn.place 2 = some (2, 1) := rfl
theorem Opn.place3 : Opn.place 3 = some (3, 1) := rfl
attribute [go_sem ↓] Opn.ld Opn.st Opn.al Opn.bd Opn.eql Opn.neq
attribute [go_sem] Opn.arr_size Opn.arr_one Opn.row Opn.put Opn.arr_kind Opn.get_kind Opn.put_kind Opn.set_kind Opn.arr_key Opn.get_key Opn.put_key Opn.set_key Opn.arr_val Opn.get_val Opn.put_val Opn.set_val Opn.arr_add Opn.get_add Opn.put_add Opn.set_add Opn.zero_kind Opn.zero_key Opn.zero_val Opn.zero_add Opn.place0 Opn.place1 Opn.place2 Opn.place3 Opn.load Opn.store Opn.alloc Opn.build Opn.eqG
theorem Opn.enc : EncOk Opn.arr 4 := ⟨Opn.arr_size, Opn.arr_one, by omega⟩

/-! ### api.Answer -/
structure Ans where
  code : Int
  found : Bool
  val : Vl
def Ans.beq (a b : Ans) : Bool := a.code == b.code && a.found == b.found && a.val.beq b.val
theorem Ans.beq_iff {a b : Ans} : a.beq b = true ↔ a = b := by
  cases a; cases b
  simp [Ans.beq, and_assoc, Vl.beq_iff]
instance : DecidableEq Ans := fun a b => decidable_of_iff (a.beq b = true) Ans.beq_iff
theorem Ans.beq_dec (a b : Ans) : a.beq b = decide (a = b) := by rw [Bool.eq_iff_iff, Ans.beq_iff, decide_eq_true_eq]
@[irreducible] def Ans.arr (s : Ans) : Array Value := cat (cat (cel (.int .i64 s.code)) (cel (.bool s.found))) (s.val.arr)
theorem Ans.arr_def (s : Ans) : s.arr = cat (cat (cel (.int .i64 s.code)) (cel (.bool s.found))) (s.val.arr) := by unfold Ans.arr; rfl
theorem Ans.arr_size (s : Ans) : s.arr.size = 19 := by rw [Ans.arr_def]; simp [cat_size, cel_size, Vl.arr_size]
theorem Ans.arr_one (s : Ans) : oneCells s.arr = true := by rw [Ans.arr_def]; simp [oneCells_cat, oneCells_cel, Value.oneCell', Vl.arr_one]
theorem Ans.put (s x : Ans) : splice s.arr 0 x.arr = x.arr := splice_full _ _ (by rw [Ans.arr_size, Ans.arr_size])
theorem Ans.row (s : Ans) : rowOf s.arr 0 19 = some s.arr := rowOf_full _ _ s.arr_size
theorem Ans.arr_code (s : Ans) : s.arr[0]? = some (.int .i64 s.code) := by
  refine get_of_row ?_; rw [Ans.arr_def]; simp [rowOf_cat_left, rowOf_cat_right, rowOf_here, cat_size, cel_size, Vl.arr_size]
theorem Ans.get_code (s : Ans) (hs : 0 < s.arr.size) : s.arr[0]'hs = .int .i64 s.code := (Array.getElem?_eq_some_iff.1 (Ans.arr_code s)).2
theorem Ans.put_code (s : Ans) (x : Int) : splice s.arr 0 #[.int .i64 x] = ({ s with code := x } : Ans).arr := by rw [Ans.arr_def, Ans.arr_def, ← cel_def]; simp [splice_cat_left, splice_cat_right, splice_all, cat_size, cel_size, Vl.arr_size]
theorem Ans.set_code (s : Ans) (x : Int) : s.arr.setIfInBounds 0 (.int .i64 x) = ({ s with code := x } : Ans).arr := (splice_single _ _ _ (by rw [Ans.arr_size]; omega)).symm.trans (Ans.put_code s x)
theorem Ans.arr_found (s : Ans) : s.arr[1]? = some (.bool s.found) := by
  refine get_of_row ?_; rw [Ans.arr_def]; simp [rowOf_cat_left, rowOf_cat_right, rowOf_here, cat_size, cel_size, Vl.arr_size]
theorem Ans.get_found (s : Ans) (hs : 1 < s.arr.size) : s.arr[1]'hs = .bool s.found := (Array.getElem?_eq_some_iff.1 (Ans.arr_found s)).2
theorem Ans.put_found (s : Ans) (x : Bool) : splice s.arr 1 #[.bool x] = ({ s with found := x } : Ans).arr := by rw [Ans.arr_def, Ans.arr_def, ← cel_def]; simp [splice_cat_left, splice_cat_right, splice_all, cat_size, cel_size, Vl.arr_size]
theorem Ans.set_found (s : Ans) (x : Bool) : s.arr.setIfInBounds 1 (.bool x) = ({ s with found := x } : Ans).arr := (splice_single _ _ _ (by rw [Ans.arr_size]; omega)).symm.trans (Ans.put_found s x)
theorem Ans.row_val (s : Ans) : rowOf s.arr 2 17 = some (s.val.arr) := by rw [Ans.arr_def]; simp [rowOf_cat_left, rowOf_cat_right, rowOf_here, cat_size, cel_size, Vl.arr_size]
theorem Ans.put_val (s : Ans) (x : Vl) : splice s.arr 2 (x.arr) = ({ s with val := x } : Ans).arr := by rw [Ans.arr_def, Ans.arr_def]; simp [splice_cat_left, splice_cat_right, splice_all, cat_size, cel_size, Vl.arr_size]
def Ans.zero : Ans := { code := 0, found := false, val := Vl.zero }
theorem Ans.zero_code : Ans.zero.code = 0 := rfl
theorem Ans.zero_found : Ans.zero.found = false := rfl
theorem Ans.zero_val : Ans.zero.val = Vl.zero := rfl
theorem Ans.zero_arr : Ans.zero.arr = #[.int .i64 0, .bool false, .int .i64 0, .int .u8 0, .int .u8 0, .int .u8 0, .int .u8 0, .int .u8 0, .int .u8 0, .int .u8 0, .int .u8 0, .int .u8 0, .int .u8 0, .int .u8 0, .int .u8 0, .int .u8 0, .int .u8 0, .int .u8 0, .int .u8 0] := by rw [Ans.arr_def]; simp [cat_def, cel_def, Ans.zero, bArr_zero, D64_zero, Vl.zero_arr]
theorem Ans.info : (Try.prog.info? 44).map (fun i => (i.zero, i.size)) = some (some (.agg Ans.zero.arr), 19) := by rw [Ans.zero_arr]; kernel_rfl
theorem Ans.size' : (Try.prog.info? 44).map (·.size) = some 19 := by kernel_rfl
theorem Ans.ld (v : Value) : Instr.loadAt 44 v = ldRow 44 v := ldRow_eq _ _
theorem Ans.st (a v : Value) : Instr.storeAt 44 a v = stRow 44 a v := stRow_eq _ _ _
theorem Ans.al (h : Bool) (v : Value) : Instr.alloc 44 h v = alRow 44 h v := alRow_eq _ _ _
theorem Ans.bd (ps : Array (Nat × Value)) : Instr.build 44 ps = bdRow 44 ps := bdRow_eq _ _
theorem Ans.load (b off : Nat) (w : World) : (ldRow 44 (.pointer (some ⟨b, off, none⟩))).run Try.prog w = onRow (row? w b off 19) w ((ldRow' 44 (.pointer (some ⟨b, off, none⟩))).run Try.prog w) :=
  run_ldRow Try.underlying44 rfl Ans.size' b off w
theorem Ans.store (b off : Nat) (s : Ans) (w : World) : (stRow 44 (.pointer (some ⟨b, off, none⟩)) (.agg s.arr)).run Try.prog w = onPut ((row? w b off 19).isSome && free? w b) (.ok () (putRow w b off s.arr)) ((stRow' 44 (.pointer (some ⟨b, off, none⟩)) (.agg s.arr)).run Try.prog w) :=
  run_stRow Ans.size' b off _ w s.arr_size s.arr_one
theorem Ans.alloc (w : World) (v : Value) : (alRow 44 true v).run Try.prog w = .ok (.pointer (some ⟨w.heap.size, 0, none⟩)) (w.alloc (.cells Ans.zero.arr 44)) :=
  run_alRow (z := .agg Ans.zero.arr) (zero_of_info Ans.info) w v
theorem Ans.fields : (Try.prog.fieldsOf 44).toList.map (fun f => (f.name == "_", f.type, f.offset)) = [(false, 39, 0), (false, 4, 1), (false, 42, 2)] := by kernel_rfl
theorem Ans.under : Try.prog.underlying 44 = some (.struct (Try.prog.fieldsOf 44)) := by kernel_rfl
theorem Ans.eq_ (d : Nat) (a b : Ans) (w : World) : (Op.equalIn (d + 4) 44 (.agg a.arr) (.agg b.arr)).run Try.prog w = .ok (a.beq b) w := by
  have h := run_eq_struct Ans.under (by kernel_rfl) Ans.fields (EqFs.cons (EqF.int (d := (d + 2)) Try.underlying39 (Ans.arr_code a) (Ans.arr_code b)) (EqFs.cons (EqF.bool (d := (d + 2)) Try.underlying4 (Ans.arr_found a) (Ans.arr_found b)) (EqFs.cons (EqF.agg Try.underlying42 rfl (by kernel_rfl) (Ans.row_val a) (Ans.row_val b) (Vl.eq_ d _ _)) EqFs.nil))) w
  exact h.trans (by simp [Ans.beq, Bool.and_assoc])
theorem Ans.eqG : Try.prog.eqGuardType Try.prog.depth 44 = false := by kernel_rfl
theorem Ans.eql (a b : Ans) (w : World) : (binOp .eql 44 (.agg a.arr) (.agg b.arr)).run Try.prog w = .ok (.bool (decide (a = b))) w := by
  rw [run_eql_struct]; rw [show (10000 : Nat) = 9996 + 4 from rfl, Ans.eq_, Ans.beq_dec]; rfl
theorem Ans.neq (a b : Ans) (w : World) : (binOp .neq 44 (.agg a.arr) (.agg b.arr)).run Try.prog w = .ok (.bool (!decide (a = b))) w := by
  rw [run_neq_struct]; rw [show (10000 : Nat) = 9996 + 4 from rfl, Ans.eq_, Ans.beq_dec]; rfl
def Ans.place : Nat → Option (Nat × Nat)
  | 0 => some (0, 1)
  | 1 => some (1, 1)
  | 2 => some (2, 17)
  | _ => none
theorem Ans.places : (Try.prog.fieldsOf 44).toList.mapM (fun f => (Try.prog.info? f.type).map fun i => (f.offset, i.size)) = some [(0, 1), (1, 1), (2, 17)] := by kernel_rfl
theorem Ans.build (ps : List (Nat × Value)) (w : World) : (bdRow 44 ps.toArray).run Try.prog w = onRow (fillS Ans.place Ans.zero.arr ps) w ((bdRow' 44 ps.toArray).run Try.prog w) :=
  run_bdRow Ans.under (zero_of_info Ans.info) Ans.places (fun i => by match i with | 0 => rfl | 1 => rfl | 2 => rfl | n + 3 => rfl) ps w
theorem Ans.place0 : Ans.place 0 = some (0, 1) := rfl
theorem Ans.place1 : Ans.place 1 = some (1, 1) := rfl
theorem Ans.place2 : Ans.place 2 = some (2, 17) := rfl
attribute [go_sem ↓] Ans.ld Ans.st Ans.al Ans.bd Ans.eql Ans.neq
attribute [go_sem] Ans.arr_size Ans.arr_one Ans.row Ans.put Ans.arr_code Ans.get_code Ans.put_code Ans.set_code Ans.arr_found Ans.get_found Ans.put_found Ans.set_found Ans.row_val Ans.put_val Ans.zero_code Ans.zero_found Ans.zero_val Ans.place0 Ans.place1 Ans.place2 Ans.load Ans.store Ans.alloc Ans.build Ans.eqG
theorem Ans.enc : EncOk Ans.arr 19 := ⟨Ans.arr_size, Ans.arr_one, by omega⟩


/-! ### readings -/
def strA (s : ByteArray) : AV := .v (.string s)
def Opn.av (o : Opn) : AV := .agg 4 [intA o.kind, strA o.key, strA o.val, u64A o.add]
def Ans.av (a : Ans) : AV := .agg 19 [intA a.code, boolA a.found, a.val.av]
section
variable {U : Uns} {w : World} {B : Blk} {H : Hp}
theorem Opn.rd {m : Opn} {c : List Value} : Rd U w m.av B H c ↔ c = m.arr.toList := by
  refine rd_agg (by have := m.arr_size; simpa using this) ((rds_cons (fun c => rd_v rfl) fun c => rds_cons (fun c => rd_v rfl) fun c => rds_cons (fun c => rd_v rfl) fun c => rds_cons (fun c => rd_v rfl) fun c => rds_nil).trans ?_)
  rw [Opn.arr_def]; simp [cat_list, cel_list]
theorem Ans.rd {m : Ans} {c : List Value} : Rd U w m.av B H c ↔ c = m.arr.toList := by
  refine rd_agg (by have := m.arr_size; simpa using this) ((rds_cons (fun c => rd_v rfl) fun c => rds_cons (fun c => rd_v rfl) fun c => rds_cons (fun c => Vl.rd) fun c => rds_nil).trans ?_)
  rw [Ans.arr_def]; simp [cat_list, cel_list]
end
def dOpn : DT Opn := ⟨38, 4, Opn.av, Opn.arr, Opn.rd, fun _ => rfl, Opn.enc⟩
def dAns : DT Ans := ⟨44, 19, Ans.av, Ans.arr, Ans.rd, fun _ => rfl, Ans.enc⟩
theorem zero_Opn : ZeroOk Try.prog 38 Opn.zero.av := zero_of Opn.info fun U w => Opn.rd.2 rfl
theorem zero_Ans : ZeroOk Try.prog 44 Ans.zero.av := zero_of Ans.info fun U w => Ans.rd.2 rfl
def opsA (l : List Opn) : AV := .sl none 4 (l.map Opn.av)
def ansA (l : List Ans) : AV := .sl none 19 (l.map Ans.av)
section
variable {E : Env} {nt : Nat} {ops : Array Oper} {T : Nat → Option AV} {H : Hp} {d : Option Nat} {ty : TypeId} {pos : String} {af : Array Edge} {gd : Option (Nat × Bool)}
theorem o_eqAns {t' : TypeId} {x y : Operand} {a b : Ans} (hd : dOk nt d = true) (hx : evalO T x = some a.av) (hy : evalO T y = some b.av) : OpOK Try.prog E nt ops ⟨d, .binOp .eql 44 x y t', ty, pos, af, gd⟩ T H [] ⟨.v (.bool (decide (a = b))), []⟩ := o_eqd dAns Ans.eql Ans.eqG hd hx hy
theorem o_neAns {t' : TypeId} {x y : Operand} {a b : Ans} (hd : dOk nt d = true) (hx : evalO T x = some a.av) (hy : evalO T y = some b.av) : OpOK Try.prog E nt ops ⟨d, .binOp .neq 44 x y t', ty, pos, af, gd⟩ T H [] ⟨.v (.bool (decide (a ≠ b))), []⟩ := o_ned dAns Ans.neq Ans.eqG hd hx hy
end
end Go.Proofs.Ytphojngdgmnpaaa

namespace Go.Proofs.Ytphojngdgmnpaaa
open Go Go.RowKit
set_option linter.unusedVariables false
set_option linter.unusedSimpArgs false
set_option maxRecDepth 100000

/-! ### api.Call -/
structure Cal where
  client : Int
  index : Int
  op : Opn
  frm : Int
  to : Int
  ans : Ans
def Cal.beq (a b : Cal) : Bool := a.client == b.client && a.index == b.index && a.op.beq b.op && a.frm == b.frm && a.to == b.to && a.ans.beq b.ans
theorem Cal.beq_iff {a b : Cal} : a.beq b = true ↔ a = b := by
  cases a; cases b
  simp [Cal.beq, and_assoc, Opn.beq_iff, Ans.beq_iff]
instance : DecidableEq Cal := fun a b => decidable_of_iff (a.beq b = true) Cal.beq_iff
theorem Cal.beq_dec (a b : Cal) : a.beq b = decide (a = b) := by rw [Bool.eq_iff_iff, Cal.beq_iff, decide_eq_true_eq]
@[irreducible] def Cal.arr (s : Cal) : Array Value := cat (cat (cat (cat (cat (cel (.int .i64 s.client)) (cel (.int .i64 s.index))) (s.op.arr)) (cel (.int .i64 s.frm))) (cel (.int .i64 s.to))) (s.ans.arr)
theorem Cal.arr_def (s : Cal) : s.arr = cat (cat (cat (cat (cat (cel (.int .i64 s.client)) (cel (.int .i64 s.index))) (s.op.arr)) (cel (.int .i64 s.frm))) (cel (.int .i64 s.to))) (s.ans.arr) := by unfold Cal.arr; rfl
theorem Cal.arr_size (s : Cal) : s.arr.size = 27 := by rw [Cal.arr_def]; simp [cat_size, cel_size, Ans.arr_size, Opn.arr_size]
theorem Cal.arr_one (s : Cal) : oneCells s.arr = true := by rw [Cal.arr_def]; simp [oneCells_cat, oneCells_cel, Value.oneCell', Ans.arr_one, Opn.arr_one]
theorem Cal.put (s x : Cal) : splice s.arr 0 x.arr = x.arr := splice_full _ _ (by rw [Cal.arr_size, Cal.arr_size])
theorem Cal.row (s : Cal) : rowOf s.arr 0 27 = some s.arr := rowOf_full _ _ s.arr_size
theorem Cal.arr_client (s : Cal) : s.arr[0]? = some (.int .i64 s.client) := by
  refine get_of_row ?_; rw [Cal.arr_def]; simp [rowOf_cat_left, rowOf_cat_right, rowOf_here, cat_size, cel_size, Ans.arr_size, Opn.arr_size]
theorem Cal.get_client (s : Cal) (hs : 0 < s.arr.size) : s.arr[0]'hs = .int .i64 s.client := (Array.getElem?_eq_some_iff.1 (Cal.arr_client s)).2
theorem Cal.put_client (s : Cal) (x : Int) : splice s.arr 0 #[.int .i64 x] = ({ s with client := x } : Cal).arr := by rw [Cal.arr_def, Cal.arr_def, ← cel_def]; simp [splice_cat_left, splice_cat_right, splice_all, cat_size, cel_size, Ans.arr_size, Opn.arr_size]
theorem Cal.set_client (s : Cal) (x : Int) : s.arr.setIfInBounds 0 (.int .i64 x) = ({ s with client := x } : Cal).arr := (splice_single _ _ _ (by rw [Cal.arr_size]; omega)).symm.trans (Cal.put_client s x)
theorem Cal.arr_index (s : Cal) : s.arr[1]? = some (.int .i64 s.index) := by
  refine get_of_row ?_; rw [Cal.arr_def]; simp [rowOf_cat_left, rowOf_cat_right, rowOf_here, cat_size, cel_size, Ans.arr_size, Opn.arr_size]
theorem Cal.get_index (s : Cal) (hs : 1 < s.arr.size) : s.arr[1]'hs = .int .i64 s.index := (Array.getElem?_eq_some_iff.1 (Cal.arr_index s)).2
theorem Cal.put_index (s : Cal) (x : Int) : splice s.arr 1 #[.int .i64 x] = ({ s with index := x } : Cal).arr := by rw [Cal.arr_def, Cal.arr_def, ← cel_def]; simp [splice_cat_left, splice_cat_right, splice_all, cat_size, cel_size, Ans.arr_size, Opn.arr_size]
theorem Cal.set_index (s : Cal) (x : Int) : s.arr.setIfInBounds 1 (.int .i64 x) = ({ s with index := x } : Cal).arr := (splice_single _ _ _ (by rw [Cal.arr_size]; omega)).symm.trans (Cal.put_index s x)
theorem Cal.row_op (s : Cal) : rowOf s.arr 2 4 = some (s.op.arr) := by rw [Cal.arr_def]; simp [rowOf_cat_left, rowOf_cat_right, rowOf_here, cat_size, cel_size, Ans.arr_size, Opn.arr_size]
theorem Cal.put_op (s : Cal) (x : Opn) : splice s.arr 2 (x.arr) = ({ s with op := x } : Cal).arr := by rw [Cal.arr_def, Cal.arr_def]; simp [splice_cat_left, splice_cat_right, splice_all, cat_size, cel_size, Ans.arr_size, Opn.arr_size]
theorem Cal.arr_frm (s : Cal) : s.arr[6]? = some (.int .i64 s.frm) := by
  refine get_of_row ?_; rw [Cal.arr_def]; simp [rowOf_cat_left, rowOf_cat_right, rowOf_here, cat_size, cel_size, Ans.arr_size, Opn.arr_size]
theorem Cal.get_frm (s : Cal) (hs : 6 < s.arr.size) : s.arr[6]'hs = .int .i64 s.frm := (Array.getElem?_eq_some_iff.1 (Cal.arr_frm s)).2
theorem Cal.put_frm (s : Cal) (x : Int) : splice s.arr 6 #[.int .i64 x] = ({ s with frm := x } : Cal).arr := by rw [Cal.arr_def, Cal.arr_def, ← cel_def]; simp [splice_cat_left, splice_cat_right, splice_all, cat_size, cel_size, Ans.arr_size, Opn.arr_size]
theorem Cal.set_frm (s : Cal) (x : Int) : s.arr.setIfInBounds 6 (.int .i64 x) = ({ s with frm := x } : Cal).arr := (splice_single _ _ _ (by rw [Cal.arr_size]; omega)).symm.trans (Cal.put_frm s x)
theorem Cal.arr_to (s : Cal) : s.arr[7]? = some (.int .i64 s.to) := by
  refine get_of_row ?_; rw [Cal.arr_def]; simp [rowOf_cat_left, rowOf_cat_right, rowOf_here, cat_size, cel_size, Ans.arr_size, Opn.arr_size]
theorem Cal.get_to (s : Cal) (hs : 7 < s.arr.size) : s.arr[7]'hs = .int .i64 s.to := (Array.getElem?_eq_some_iff.1 (Cal.arr_to s)).2
theorem Cal.put_to (s : Cal) (x : Int) : splice s.arr 7 #[.int .i64 x] = ({ s with to := x } : Cal).arr := by rw [Cal.arr_def, Cal.arr_def, ← cel_def]; simp [splice_cat_left, splice_cat_right, splice_all, cat_size, cel_size, Ans.arr_size, Opn.arr_size]
theorem Cal.set_to (s : Cal) (x : Int) : s.arr.setIfInBounds 7 (.int .i64 x) = ({ s with to := x } : Cal).arr := (splice_single _ _ _ (by rw [Cal.arr_size]; omega)).symm.trans (Cal.put_to s x)
theorem Cal.row_ans (s : Cal) : rowOf s.arr 8 19 = some (s.ans.arr) := by rw [Cal.arr_def]; simp [rowOf_cat_left, rowOf_cat_right, rowOf_here, cat_size, cel_size, Ans.arr_size, Opn.arr_size]
theorem Cal.put_ans (s : Cal) (x : Ans) : splice s.arr 8 (x.arr) = ({ s with ans := x } : Cal).arr := by rw [Cal.arr_def, Cal.arr_def]; simp [splice_cat_left, splice_cat_right, splice_all, cat_size, cel_size, Ans.arr_size, Opn.arr_size]
def Cal.zero : Cal := { client := 0, index := 0, op := Opn.zero, frm := 0, to := 0, ans := Ans.zero }
theorem Cal.zero_client : Cal.zero.client = 0 := rfl
theorem Cal.zero_index : Cal.zero.index = 0 := rfl
theorem Cal.zero_op : Cal.zero.op = Opn.zero := rfl
theorem Cal.zero_frm : Cal.zero.frm = 0 := rfl
theorem Cal.zero_to : Cal.zero.to = 0 := rfl
theorem Cal.zero_ans : Cal.zero.ans = Ans.zero := rfl
theorem Cal.zero_arr : Cal.zero.arr = #[.int .i64 0, .int .i64 0, .int .i64 0, .string .empty, .string .empty, .int .u64 0, .int .i64 0, .int .i64 0, .int .i64 0, .bool false, .int .i64 0, .int .u8 0, .int .u8 0, .int .u8 0, .int .u8 0, .int .u8 0, .int .u8 0, .int .u8 0, .int .u8 0, .int .u8 0, .int .u8 0, .int .u8 0, .int .u8 0, .int .u8 0, .int .u8 0, .int .u8 0, .int .u8 0] := by rw [Cal.arr_def]; simp [cat_def, cel_def, Cal.zero, bArr_zero, D64_zero, Opn.zero_arr, Ans.zero_arr]
theorem Cal.info : (Try.prog.info? 46).map (fun i => (i.zero, i.size)) = some (some (.agg Cal.zero.arr), 27) := by rw [Cal.zero_arr]; kernel_rfl
theorem Cal.size' : (Try.prog.info? 46).map (·.size) = some 27 := by kernel_rfl
theorem Cal.ld (v : Value) : Instr.loadAt 46 v = ldRow 46 v := ldRow_eq _ _
theorem Cal.st (a v : Value) : Instr.storeAt 46 a v = stRow 46 a v := stRow_eq _ _ _
theorem Cal.al (h : Bool) (v : Value) : Instr.alloc 46 h v = alRow 46 h v := alRow_eq _ _ _
theorem Cal.bd (ps : Array (Nat × Value)) : Instr.build 46 ps = bdRow 46 ps := bdRow_eq _ _
theorem Cal.load (b off : Nat) (w : World) : (ldRow 46 (.pointer (some ⟨b, off, none⟩))).run Try.prog w = onRow (row? w b off 27) w ((ldRow' 46 (.pointer (some ⟨b, off, none⟩))).run Try.prog w) :=
  run_ldRow Try.underlying46 rfl Cal.size' b off w
theorem Cal.store (b off : Nat) (s : Cal) (w : World) : (stRow 46 (.pointer (some ⟨b, off, none⟩)) (.agg s.arr)).run Try.prog w = onPut ((row? w b off 27).isSome && free? w b) (.ok () (putRow w b off s.arr)) ((stRow' 46 (.pointer (some ⟨b, off, none⟩)) (.agg s.arr)).run Try.prog w) :=
  run_stRow Cal.size' b off _ w s.arr_size s.arr_one
theorem Cal.alloc (w : World) (v : Value) : (alRow 46 true v).run Try.prog w = .ok (.pointer (some ⟨w.heap.size, 0, none⟩)) (w.alloc (.cells Cal.zero.arr 46)) :=
  run_alRow (z := .agg Cal.zero.arr) (zero_of_info Cal.info) w v
theorem Cal.fields : (Try.prog.fieldsOf 46).toList.map (fun f => (f.name == "_", f.type, f.offset)) = [(false, 3, 0), (false, 3, 1), (false, 38, 2), (false, 3, 6), (false, 3, 7), (false, 44, 8)] := by kernel_rfl
theorem Cal.under : Try.prog.underlying 46 = some (.struct (Try.prog.fieldsOf 46)) := by kernel_rfl
theorem Cal.eq_ (d : Nat) (a b : Cal) (w : World) : (Op.equalIn (d + 5) 46 (.agg a.arr) (.agg b.arr)).run Try.prog w = .ok (a.beq b) w := by
  have h := run_eq_struct Cal.under (by kernel_rfl) Cal.fields (EqFs.cons (EqF.int (d := (d + 3)) Try.underlying3 (Cal.arr_client a) (Cal.arr_client b)) (EqFs.cons (EqF.int (d := (d + 3)) Try.underlying3 (Cal.arr_index a) (Cal.arr_index b)) (EqFs.cons (EqF.agg Try.underlying38 rfl (by kernel_rfl) (Cal.row_op a) (Cal.row_op b) (Opn.eq_ (d + 2) _ _)) (EqFs.cons (EqF.int (d := (d + 3)) Try.underlying3 (Cal.arr_frm a) (Cal.arr_frm b)) (EqFs.cons (EqF.int (d := (d + 3)) Try.underlying3 (Cal.arr_to a) (Cal.arr_to b)) (EqFs.cons (EqF.agg Try.underlying44 rfl (by kernel_rfl) (Cal.row_ans a) (Cal.row_ans b) (Ans.eq_ d _ _)) EqFs.nil)))))) w
  exact h.trans (by simp [Cal.beq, Bool.and_assoc])
theorem Cal.eqG : Try.prog.eqGuardType Try.prog.depth 46 = false := by kernel_rfl
theorem Cal.eql (a b : Cal) (w : World) : (binOp .eql 46 (.agg a.arr) (.agg b.arr)).run Try.prog w = .ok (.bool (decide (a = b))) w := by
  rw [run_eql_struct]; rw [show (10000 : Nat) = 9995 + 5 from rfl, Cal.eq_, Cal.beq_dec]; rfl
theorem Cal.neq (a b : Cal) (w : World) : (binOp .neq 46 (.agg a.arr) (.agg b.arr)).run Try.prog w = .ok (.bool (!decide (a = b))) w := by
  rw [run_neq_struct]; rw [show (10000 : Nat) = 9995 + 5 from rfl, Cal.eq_, Cal.beq_dec]; rfl
def Cal.place : Nat → Option (Nat × Nat)
  | 0 => some (0, 1)
  | 1 => some (1, 1)
  | 2 => some (2, 4)
  | 3 => some (6, 1)
  | 4 => some (7, 1)
  | 5 => some (8, 19)
  | _ => none
theorem Cal.places : (Try.prog.fieldsOf 46).toList.mapM (fun f => (Try.prog.info? f.type).map fun i => (f.offset, i.size)) = some [(0, 1), (1, 1), (2, 4), (6, 1), (7, 1), (8, 19)] := by kernel_rfl
theorem Cal.build (ps : List (Nat × Value)) (w : World) : (bdRow 46 ps.toArray).run Try.prog w = onRow (fillS Cal.place Cal.zero.arr ps) w ((bdRow' 46 ps.toArray).run Try.prog w) :=
  run_bdRow Cal.under (zero_of_info Cal.info) Cal.places (fun i => by match i with | 0 => rfl | 1 => rfl | 2 => rfl | 3 => rfl | 4 => rfl | 5 => rfl | n + 6 => rfl) ps w
theorem Cal.place0 : Cal.place 0 = some (0, 1) := rfl
theorem Cal.place1 : Cal.place 1 = some (1, 1) := rfl
theorem Cal.place2 : Cal.place 2 = some (2, 4) := rfl
theorem Cal.place3 : Cal.place 3 = some (6, 1) := rfl
theorem Cal.place4 : Cal.place 4 = some (7, 1) := rfl
theorem Cal.place5 : Cal.place 5 = some (8, 19) := rfl
attribute [go_sem ↓] Cal.ld Cal.st Cal.al Cal.bd Cal.eql Cal.neq
attribute [go_sem] Cal.arr_size Cal.arr_one Cal.row Cal.put Cal.arr_client Cal.get_client Cal.put_client Cal.set_client Cal.arr_index Cal.get_index Cal.put_index Cal.set_index Cal.row_op Cal.put_op Cal.arr_frm Cal.get_frm Cal.put_frm Cal.set_frm Cal.arr_to Cal.get_to Cal.put_to Cal.set_to Cal.row_ans Cal.put_ans Cal.zero_client Cal.zero_index Cal.zero_op Cal.zero_frm Cal.zero_to Cal.zero_ans Cal.place0 Cal.place1 Cal.place2 Cal.place3 Cal.place4 Cal.place5 Cal.load Cal.store Cal.alloc Cal.build Cal.eqG
theorem Cal.enc : EncOk Cal.arr 27 := ⟨Cal.arr_size, Cal.arr_one, by omega⟩

/-! ### readings -/
def Cal.av (a : Cal) : AV := .agg 27 [intA a.client, intA a.index, a.op.av, intA a.frm, intA a.to, a.ans.av]
section
variable {U : Uns} {w : World} {B : Blk} {H : Hp}
theorem Cal.rd {m : Cal} {c : List Value} : Rd U w m.av B H c ↔ c = m.arr.toList := by
  refine rd_agg (by have := m.arr_size; simpa using this) ((rds_cons (fun c => rd_v rfl) fun c => rds_cons (fun c => rd_v rfl) fun c => rds_cons (fun c => Opn.rd) fun c => rds_cons (fun c => rd_v rfl) fun c => rds_cons (fun c => rd_v rfl) fun c => rds_cons (fun c => Ans.rd) fun c => rds_nil).trans ?_)
  rw [Cal.arr_def]; simp [cat_list, cel_list]
end
def dCal : DT Cal := ⟨46, 27, Cal.av, Cal.arr, Cal.rd, fun _ => rfl, Cal.enc⟩
theorem zero_Cal : ZeroOk Try.prog 46 Cal.zero.av := zero_of Cal.info fun U w => Cal.rd.2 rfl
def calsA (l : List Cal) : AV := .sl none 27 (l.map Cal.av)
end Go.Proofs.Ytphojngdgmnpaaa

namespace Go.Proofs.Ytphojngdgmnpaaa
open Go Go.RowKit
set_option linter.unusedVariables false
set_option linter.unusedSimpArgs false
set_option maxRecDepth 100000

/-! ### plain law -/
@[irreducible] def Msg.ok (m : Msg) : Bool := decide (1 ≤ m.kind) && decide (m.kind ≤ 3) && m.key.ok && (if m.kind = 1 then m.val.ok else decide (m.val = Vl.zero)) && (decide (m.kind = 3) || decide (m.add = 0#64))
theorem Msg.spec {m : Msg} (h : m.ok = true) : 1 ≤ m.kind ∧ m.kind ≤ 3 ∧ m.key.ok = true ∧ m.val.ok = true ∧ (m.kind ≠ 1 → m.val = Vl.zero) ∧ (m.kind ≠ 3 → m.add = 0#64) := by
  unfold Msg.ok at h
  simp only [Bool.and_eq_true, Bool.or_eq_true, decide_eq_true_eq] at h
  obtain ⟨⟨⟨⟨h1, h2⟩, h3⟩, h4⟩, h5⟩ := h
  by_cases c : m.kind = 1
  · rw [if_pos c] at h4
    exact ⟨h1, h2, h3, h4, fun n => absurd c n, fun n => h5.resolve_left n⟩
  · rw [if_neg c, decide_eq_true_eq] at h4
    exact ⟨h1, h2, h3, by rw [h4]; exact Vl.zero_ok, fun _ => h4, fun n => h5.resolve_left n⟩
theorem Key.n_le {k : Key} (h : k.ok = true) : 0 ≤ k.n ∧ k.n ≤ 8 := by have := (Key.ok_iff k).1 h; exact ⟨this.1, this.2.1⟩
theorem Vl.n_le {k : Vl} (h : k.ok = true) : 0 ≤ k.n ∧ k.n ≤ 16 := by have := (Vl.ok_iff k).1 h; exact ⟨this.1, this.2.1⟩
def Msg.size (m : Msg) : Int := if m.ok then (if m.kind = 1 then 11 + m.key.n + m.val.n else if m.kind = 3 then 18 + m.key.n else 10 + m.key.n) else 0
def applyM (v : Vl) (there : Bool) (m : Msg) : Vl × Bool :=
  if m.kind = 1 then (m.val, true) else if m.kind = 2 then (Vl.zero, false) else if there then (vplus v m.add, true) else (fromN m.add, true)
def composeM (o n : Msg) : Msg :=
  if n.kind ≠ 3 ∨ o.key ≠ n.key then n else
  if o.kind = 1 then ⟨1, n.seq, n.key, vplus o.val n.add, 0#64⟩ else
  if o.kind = 2 then ⟨1, n.seq, n.key, fromN n.add, 0#64⟩ else
  ⟨3, n.seq, n.key, Vl.zero, o.add + n.add⟩
set_option maxRecDepth 100000 in
theorem vplus_zero (n : BitVec 64) : vplus Vl.zero n = fromN n := by
  unfold vplus
  rw [show numOf Vl.zero = 0#64 from by decide]
  simp
/-! ### contracts -/
theorem a_reffrom (n : BitVec 64) : AFn Try.prog 70 [u64A n] (fromN n).av := fun U w vs h => by
  obtain ⟨v1, us, rfl, h1, h⟩ := rdp_one h
  obtain rfl := rdp_nil h
  rw [u64_arg h1]
  exact ofIs (reffrom_any n w) fun w' => dVl.rdv.2 rfl
section
variable {E : Env} {nt : Nat} {ops : Array Oper} {T : Nat → Option AV} {H : Hp} {d : Option Nat} {ty : TypeId} {pos : String} {af : Array Edge} {gd : Option (Nat × Bool)}
theorem o_addu {t t' : TypeId} {x y : Operand} {a b : BitVec 64} (hd : dOk nt d = true) (hx : evalO T x = some (.v (.int .u64 (D64 a)))) (hy : evalO T y = some (.v (.int .u64 (D64 b)))) : OpOK Try.prog E nt ops ⟨d, .binOp .add t x y t', ty, pos, af, gd⟩ T H [] ⟨.v (.int .u64 (D64 (a + b))), []⟩ := ok_add hd hx hy (D64_add a b)
set_option maxRecDepth 100000 in
theorem z_bld0 {t n : Nat} {fs : List (Nat × Nat × Bool)} {zs : List AV} {z : AV} (hz : zeroT t = some z) (hze : z = .agg n zs) (hd : dOk nt d = true) (hs : tabT.ti t = some (.st n fs)) (hp : placesOk 0 zs fs = true) :
    OpOK Try.prog E nt ops ⟨d, .build t #[], ty, pos, af, gd⟩ T H [] ⟨z, []⟩ := by
  subst hze
  exact ok_build tabT (l := []) (vs := []) hd hs (zeroT_ok hz) rfl rfl hp
end
attribute [local irreducible] OpOK AWops AW CondB Go2 AFn thenA inBlockA noGotoA orderOk wantedA
set_option maxRecDepth 100000 in
set_option maxHeartbeats 4000000 in
theorem a_refapply (v : Vl) (b : Bool) (m : Msg) : AFn Try.prog 65 [v.av, boolA b, m.av] (.tup [(applyM v b m).1.av, boolA (applyM v b m).2]) := by
  refine AFn_intro Try.func65 rfl Try.ntmps65 rfl (by simp) [_, _] rfl fun E hE => ?_
  have c1 := acall Try.func70 (a_reffrom m.add) (by decide +kernel) (by decide +kernel)
  have c2 := acall Try.func71 (a_refplus v m.add) (by decide +kernel) (by decide +kernel)
  unfold applyM
  by_cases p : m.kind = 1
  · rw [if_pos p]
    refine wL ?_
    exact fin ⟨res_var rfl rfl rfl rfl, res_of rfl rfl rfl, trivial⟩
  rw [if_neg p]
  by_cases p2 : m.kind = 2
  · rw [if_pos p2]
    refine wL ?_
    exact fin ⟨res_var rfl rfl rfl rfl, res_of rfl rfl rfl, trivial⟩
  rw [if_neg p2]
  cases b with
  | true =>
    have k' : (!true) = false := rfl
    refine wL ?_
    exact fin ⟨res_var rfl rfl rfl rfl, res_of rfl rfl rfl, trivial⟩
  | false =>
    have k' : (!false) = true := rfl
    refine wL ?_
    exact fin ⟨res_var rfl rfl rfl rfl, res_of rfl rfl rfl, trivial⟩
set_option maxRecDepth 100000 in
set_option maxHeartbeats 4000000 in
theorem a_apply (v : Vl) (b : Bool) (m : Msg) (hm : 1 ≤ m.kind ∧ m.kind ≤ 3) : AFn Try.prog 69 [v.av, boolA b, m.av] (.tup [(applyM v b m).1.av, boolA (applyM v b m).2]) := by
  refine AFn_intro Try.func69 rfl Try.ntmps69 rfl (by simp) [_, _] rfl fun E hE => ?_
  have c1 := a_plus Vl.zero m.add
  rw [vplus_zero] at c1
  have d1 := acall Try.func73 (c1) (by decide +kernel) (by decide +kernel)
  have d2 := acall Try.func73 (a_plus v m.add) (by decide +kernel) (by decide +kernel)
  unfold applyM
  by_cases p : m.kind = 1
  · rw [if_pos p]
    refine wL ?_
    exact fin ⟨res_var rfl rfl rfl rfl, res_of rfl rfl rfl, trivial⟩
  rw [if_neg p]
  by_cases p2 : m.kind = 2
  · rw [if_pos p2]
    refine wL ?_
    exact fin ⟨res_var rfl rfl rfl rfl, res_of rfl rfl rfl, trivial⟩
  rw [if_neg p2]
  have p3 : m.kind = 3 := by omega
  cases b with
  | true =>
    have k' : (!true) = false := rfl
    refine wL ?_
    exact fin ⟨res_var rfl rfl rfl rfl, res_of rfl rfl rfl, trivial⟩
  | false =>
    have k' : (!false) = true := rfl
    refine wL ?_
    exact fin ⟨res_var rfl rfl rfl rfl, res_of rfl rfl rfl, trivial⟩
end Go.Proofs.Ytphojngdgmnpaaa

namespace Go.Proofs.Ytphojngdgmnpaaa
open Go Go.RowKit
set_option linter.unusedVariables false
set_option linter.unusedSimpArgs false
set_option maxRecDepth 100000

def Ent.size (e : Ent) : Int := 2 + e.key.n + e.val.n
def eSum (l : List Ent) : Int := (l.map Ent.size).sum
def lfAt (k : Key) (l : List Ent) : Nat := l.countP fun e => decide (e.key.rank < k.rank)
def Srt (l : List Ent) : Prop := l.Pairwise fun a b => a.key.rank < b.key.rank
def EOk (l : List Ent) : Prop := ∀ e ∈ l, e.key.ok = true ∧ e.val.ok = true
structure Lf (l : List Ent) : Prop where
  ok : EOk l
  srt : Srt l
/-- a key's value -/
def lfGet (k : Key) (l : List Ent) : Option Vl := (l.find? fun e => decide (e.key = k)).map (·.val)
/-- what a message makes of a key's value -/
def ap (m : Msg) (o : Option Vl) : Option Vl := if m.kind = 1 then some m.val else if m.kind = 2 then none else match o with
  | some v => some (vplus v m.add)
  | none => some (fromN m.add)
def opA (o : Option Vl) : Vl × Bool := match o with
  | some v => (v, true)
  | none => (Vl.zero, false)
theorem applyM_ap (m : Msg) (o : Option Vl) : applyM (opA o).1 (opA o).2 m = opA (ap m o) := by
  unfold applyM ap
  by_cases h1 : m.kind = 1
  · rw [if_pos h1, if_pos h1]; rfl
  · rw [if_neg h1, if_neg h1]
    by_cases h2 : m.kind = 2
    · rw [if_pos h2, if_pos h2]; rfl
    · rw [if_neg h2, if_neg h2]
      cases o <;> rfl
def newE (k : Key) (o : Option Vl) : List Ent := match o with
  | some v => [⟨k, v⟩]
  | none => []
def lfSet (l : List Ent) (k : Key) (o : Option Vl) : List Ent := l.filter (fun e => decide (e.key.rank < k.rank)) ++ (newE k o ++ l.filter (fun e => decide (k.rank < e.key.rank)))
/-- the leaf behind a message -/
def lfPut (l : List Ent) (m : Msg) : List Ent := lfSet l m.key (ap m (lfGet m.key l))
def lfAll (l : List Ent) (ms : List Msg) : List Ent := ms.foldl lfPut l

theorem lfAt_le (k : Key) (l : List Ent) : lfAt k l ≤ l.length := List.countP_le_length
theorem lfAt_cons (k : Key) (e : Ent) (l : List Ent) : lfAt k (e :: l) = lfAt k l + if e.key.rank < k.rank then 1 else 0 := by
  unfold lfAt
  rw [List.countP_cons]
  simp
theorem Srt.tail {e : Ent} {l : List Ent} (h : Srt (e :: l)) : Srt l := (List.pairwise_cons.1 h).2
theorem Srt.head {e : Ent} {l : List Ent} (h : Srt (e :: l)) : ∀ b ∈ l, e.key.rank < b.key.rank := (List.pairwise_cons.1 h).1
theorem lfAt_zero {k : Key} {l : List Ent} (h : ∀ b ∈ l, k.rank ≤ b.key.rank) : lfAt k l = 0 := by
  unfold lfAt
  rw [List.countP_eq_zero]
  intro b hb
  have := h b hb
  simp; omega
theorem lfAt_iff {k : Key} {l : List Ent} (h : Srt l) : ∀ i (hi : i < l.length), (i < lfAt k l ↔ l[i].key.rank < k.rank) := by
  induction l with
  | nil => intro i hi; cases hi
  | cons e l ih =>
    intro i hi
    rw [lfAt_cons]
    by_cases c : e.key.rank < k.rank
    · rw [if_pos c]
      cases i with
      | zero => simp [c]
      | succ i => simpa using ih h.tail i (by simpa using hi)
    · rw [if_neg c]
      have hz : lfAt k l = 0 := lfAt_zero fun b hb => by have := h.head b hb; omega
      rw [hz]
      cases i with
      | zero => simp; omega
      | succ i =>
        have hi' : i < l.length := by simpa using hi
        have := h.head l[i] (List.getElem_mem hi')
        simp; omega
theorem Srt.lt {l : List Ent} (h : Srt l) {i j : Nat} (hi : i < l.length) (hj : j < l.length) (hij : i < j) : l[i].key.rank < l[j].key.rank := List.pairwise_iff_getElem.1 h i j hi hj hij
theorem Srt.inj {l : List Ent} (h : Srt l) {a b : Ent} (ha : a ∈ l) (hb : b ∈ l) (he : a.key.rank = b.key.rank) : a = b := by
  obtain ⟨i, hi, rfl⟩ := List.mem_iff_getElem.1 ha
  obtain ⟨j, hj, rfl⟩ := List.mem_iff_getElem.1 hb
  rcases Nat.lt_trichotomy i j with c | c | c
  · have := h.lt hi hj c; omega
  · subst c; rfl
  · have := h.lt hj hi c; omega
theorem lfGet_iff {l : List Ent} (h : Srt l) (k : Key) (v : Vl) : lfGet k l = some v ↔ (⟨k, v⟩ : Ent) ∈ l := by
  unfold lfGet
  constructor
  · intro hf
    rw [Option.map_eq_some_iff] at hf
    obtain ⟨e, h1, h2⟩ := hf
    have h3 := List.mem_of_find?_eq_some h1
    have h4 := List.find?_some h1
    rw [decide_eq_true_eq] at h4
    subst h4; subst h2
    exact h3
  · intro hm
    cases hf : l.find? (fun e => decide (e.key = k)) with
    | none =>
      rw [List.find?_eq_none] at hf
      have := hf _ hm
      simp at this
    | some e =>
      have h3 := List.mem_of_find?_eq_some hf
      have h4 := List.find?_some hf
      rw [decide_eq_true_eq] at h4
      have := h.inj h3 hm (by rw [h4])
      rw [this]; rfl
/-! ### a key's entry by its place -/
theorem get_hit {l : List Ent} (h : Srt l) {k : Key} {i : Nat} (hi : i < l.length) (he : l[i].key = k) : lfGet k l = some l[i].val := by
  rw [lfGet_iff h]
  subst he
  exact List.getElem_mem hi
theorem at_hit {l : List Ent} (h : Srt l) {k : Key} {i : Nat} (hi : i < l.length) (he : l[i].key.rank = k.rank) : lfAt k l = i := by
  have h1 := (lfAt_iff (k := k) h i hi)
  have h3 := lfAt_le k l
  rcases Nat.lt_trichotomy (lfAt k l) i with c | c | c
  · have h4 := (lfAt_iff (k := k) h (lfAt k l) (by omega))
    have := h.lt (by omega) hi c
    omega
  · exact c
  · omega
theorem get_no {l : List Ent} (h : Srt l) {k : Key} (hn : ∀ (hi : lfAt k l < l.length), l[lfAt k l].key ≠ k) : lfGet k l = none := by
  cases hg : lfGet k l with
  | none => rfl
  | some v =>
    rw [lfGet_iff h] at hg
    obtain ⟨i, hi, he⟩ := List.mem_iff_getElem.1 hg
    have := at_hit h (k := k) hi (by rw [he])
    subst this
    exact absurd (by rw [he]) (hn hi)
theorem get_none {l : List Ent} {k : Key} (hn : ∀ i (hi : i < l.length), l[i].key ≠ k) : lfGet k l = none := by
  unfold lfGet
  rw [List.find?_eq_none.2]
  · rfl
  · intro e he
    obtain ⟨i, hi, rfl⟩ := List.mem_iff_getElem.1 he
    simpa using hn i hi
theorem flt_lo {k : Key} {l : List Ent} (h : Srt l) : l.filter (fun e => decide (e.key.rank < k.rank)) = l.take (lfAt k l) := by
  induction l with
  | nil => rfl
  | cons e l ih =>
    rw [lfAt_cons]
    by_cases c : e.key.rank < k.rank
    · rw [if_pos c, List.filter_cons_of_pos (by simpa using c), List.take_succ_cons, ih h.tail]
    · rw [if_neg c, List.filter_cons_of_neg (by simpa using c)]
      have hz : lfAt k l = 0 := lfAt_zero fun b hb => by have := h.head b hb; omega
      rw [ih h.tail, hz]
      rfl
theorem flt_all {k : Key} {l : List Ent} (h : ∀ b ∈ l, k.rank < b.key.rank) : l.filter (fun e => decide (k.rank < e.key.rank)) = l := by
  rw [List.filter_eq_self]
  intro b hb
  simpa using h b hb
theorem flt_hi {k : Key} {l : List Ent} (h : Srt l) : l.filter (fun e => decide (k.rank < e.key.rank)) = l.drop (lfAt k l + if (∃ hi : lfAt k l < l.length, l[lfAt k l].key.rank = k.rank) then 1 else 0) := by
  induction l with
  | nil => simp
  | cons e l ih =>
    by_cases c : e.key.rank < k.rank
    · have e1 : lfAt k (e :: l) = lfAt k l + 1 := by rw [lfAt_cons, if_pos c]
      have e2 : (∃ hi : lfAt k (e :: l) < (e :: l).length, (e :: l)[lfAt k (e :: l)].key.rank = k.rank) ↔ (∃ hi : lfAt k l < l.length, l[lfAt k l].key.rank = k.rank) := by
        simp only [e1]
        constructor
        · rintro ⟨h1, h2⟩; exact ⟨by simpa using h1, by simpa using h2⟩
        · rintro ⟨h1, h2⟩; exact ⟨by simpa using h1, by simpa using h2⟩
      have ih' := ih h.tail
      rw [List.filter_cons_of_neg (by simp; omega), ih']
      by_cases g : ∃ hi : lfAt k l < l.length, l[lfAt k l].key.rank = k.rank
      · rw [if_pos g, if_pos (e2.2 g), e1, show lfAt k l + 1 + 1 = (lfAt k l + 1) + 1 from rfl, List.drop_succ_cons]
      · rw [if_neg g, if_neg (fun x => g (e2.1 x)), e1, Nat.add_zero, Nat.add_zero, List.drop_succ_cons]
    · have hz : lfAt k l = 0 := lfAt_zero fun b hb => by have := h.head b hb; omega
      have e1 : lfAt k (e :: l) = 0 := by rw [lfAt_cons, if_neg c, hz]
      rw [e1]
      by_cases d : e.key.rank = k.rank
      · rw [if_pos ⟨by simp [e1], by simpa [e1] using d⟩, List.filter_cons_of_neg (by simp; omega), flt_all (fun b hb => by have := h.head b hb; omega)]
        rfl
      · rw [if_neg (fun ⟨_, h2⟩ => d (by simpa [e1] using h2)), flt_all (fun b hb => by
          rcases List.mem_cons.1 hb with rfl | hb
          · omega
          · have := h.head b hb; omega)]
        rfl
theorem set_hit {l : List Ent} (h : Srt l) {k : Key} (o : Option Vl) (hi : lfAt k l < l.length) (he : l[lfAt k l].key = k) : lfSet l k o = l.take (lfAt k l) ++ (newE k o ++ l.drop (lfAt k l + 1)) := by
  unfold lfSet
  rw [flt_lo h, flt_hi h, if_pos ⟨hi, by rw [he]⟩]
theorem set_no {l : List Ent} (h : Lf l) {k : Key} (hk : k.ok = true) (o : Option Vl) (hn : ∀ (hi : lfAt k l < l.length), l[lfAt k l].key ≠ k) : lfSet l k o = l.take (lfAt k l) ++ (newE k o ++ l.drop (lfAt k l)) := by
  unfold lfSet
  rw [flt_lo h.srt, flt_hi h.srt, if_neg]
  · rfl
  · rintro ⟨hi, h2⟩
    exact hn hi ((rank_inj (h.ok _ (List.getElem_mem hi)).1 hk).1 h2)
/-! ### of a leaf with a key set -/
theorem mem_set {l : List Ent} {k : Key} {o : Option Vl} {e : Ent} : e ∈ lfSet l k o ↔ (e ∈ l ∧ e.key.rank ≠ k.rank) ∨ (e.key = k ∧ o = some e.val) := by
  unfold lfSet
  simp only [List.mem_append, List.mem_filter, decide_eq_true_eq]
  have hn : e ∈ newE k o ↔ e.key = k ∧ o = some e.val := by
    unfold newE
    cases o with
    | none => simp
    | some v =>
      simp only [List.mem_singleton, Option.some.injEq]
      constructor
      · rintro rfl; exact ⟨rfl, rfl⟩
      · rintro ⟨h1, h2⟩; cases e; simp_all
  rw [hn]
  constructor
  · rintro (⟨h1, h2⟩ | h1 | ⟨h1, h2⟩)
    · exact .inl ⟨h1, by omega⟩
    · exact .inr h1
    · exact .inl ⟨h1, by omega⟩
  · rintro (⟨h1, h2⟩ | h1)
    · rcases Nat.lt_or_gt_of_ne h2 with c | c
      · exact .inl ⟨h1, c⟩
      · exact .inr (.inr ⟨h1, c⟩)
    · exact .inr (.inl h1)
theorem srt_set {l : List Ent} (h : Srt l) (k : Key) (o : Option Vl) : Srt (lfSet l k o) := by
  unfold Srt lfSet
  have hn : ∀ e ∈ newE k o, e.key = k := fun e he => by
    unfold newE at he
    cases o with
    | none => cases he
    | some v => simp only [List.mem_singleton] at he; subst he; rfl
  rw [List.pairwise_append, List.pairwise_append]
  refine ⟨h.sublist List.filter_sublist, ⟨?_, h.sublist List.filter_sublist, fun a ha b hb => ?_⟩, fun a ha b hb => ?_⟩
  · unfold newE
    cases o with
    | none => exact List.Pairwise.nil
    | some v => exact List.pairwise_singleton ..
  · rw [hn a ha]
    simpa using (List.mem_filter.1 hb).2
  · have h1 : a.key.rank < k.rank := by simpa using (List.mem_filter.1 ha).2
    rcases List.mem_append.1 hb with hb | hb
    · rw [hn b hb]; exact h1
    · have h2 : k.rank < b.key.rank := by simpa using (List.mem_filter.1 hb).2
      omega
def OOk (o : Option Vl) : Prop := ∀ v, o = some v → v.ok = true
theorem lf_set {l : List Ent} (h : Lf l) {k : Key} (hk : k.ok = true) {o : Option Vl} (ho : OOk o) : Lf (lfSet l k o) := by
  refine ⟨fun e he => ?_, srt_set h.srt k o⟩
  rcases mem_set.1 he with ⟨h1, _⟩ | ⟨h1, h2⟩
  · exact h.ok e h1
  · exact ⟨by rw [h1]; exact hk, ho _ h2⟩
theorem get_ok {l : List Ent} (h : Lf l) (k : Key) : OOk (lfGet k l) := fun v hv => (h.ok _ ((lfGet_iff h.srt k v).1 hv)).2
theorem vplus_ok (v : Vl) (n : BitVec 64) : (vplus v n).ok = true := fromN_ok _
theorem ap_ok {m : Msg} (hm : m.ok = true) {o : Option Vl} (ho : OOk o) : OOk (ap m o) := by
  obtain ⟨h1, h2, h3, h4, _⟩ := Msg.spec hm
  unfold ap
  intro v hv
  split at hv
  · injection hv with hv; subst hv; exact h4
  · split at hv
    · cases hv
    · split at hv
      · injection hv with hv; subst hv; exact vplus_ok _ _
      · injection hv with hv; subst hv; exact fromN_ok _
theorem lf_put {l : List Ent} (h : Lf l) {m : Msg} (hm : m.ok = true) : Lf (lfPut l m) := lf_set h (Msg.spec hm).2.2.1 (ap_ok hm (get_ok h _))
theorem lf_nil : Lf [] := ⟨(fun e h => by cases h), List.Pairwise.nil⟩
theorem set_len {l : List Ent} (k : Key) (o : Option Vl) : (lfSet l k o).length ≤ l.length + 1 := by
  unfold lfSet
  have h1 : (newE k o).length ≤ 1 := by unfold newE; cases o <;> simp
  have h2 : (l.filter (fun e => decide (e.key.rank < k.rank))).length + (l.filter (fun e => decide (k.rank < e.key.rank))).length ≤ l.length := by
    induction l with
    | nil => simp
    | cons e l ih =>
      simp only [List.filter_cons]
      split <;> split <;> simp_all <;> omega
  simp only [List.length_append]
  omega
theorem put_len (l : List Ent) (m : Msg) : (lfPut l m).length ≤ l.length + 1 := set_len _ _
end Go.Proofs.Ytphojngdgmnpaaa

namespace Go.Proofs.Ytphojngdgmnpaaa
open Go Go.RowKit
set_option linter.unusedVariables false
set_option linter.unusedSimpArgs false
set_option maxRecDepth 100000

def lfHit (k : Key) (l : List Ent) : Bool := match l[lfAt k l]? with
  | some e => decide (e.key = k)
  | none => false
theorem lfHit_at {k : Key} {l : List Ent} (hi : lfAt k l < l.length) : lfHit k l = decide (l[lfAt k l].key = k) := by
  unfold lfHit; rw [List.getElem?_eq_getElem hi]
theorem lfHit_end {k : Key} {l : List Ent} (hi : ¬ lfAt k l < l.length) : lfHit k l = false := by
  unfold lfHit; rw [List.getElem?_eq_none (by omega)]
def opL (o : Option Vl) : List AV := [(opA o).1.av, boolA (opA o).2]
attribute [local irreducible] OpOK AWops AW CondB Go2 AFn thenA inBlockA noGotoA orderOk wantedA
set_option maxRecDepth 100000 in
set_option maxHeartbeats 4000000 in
theorem a_leafplace (l : List Ent) (k : Key) (h : Srt l) (hl : l.length ≤ 1000000000) : AFn Try.prog 67 [entsA l, k.av] (.tup [intA (lfAt k l : Nat), boolA (lfHit k l)]) := by
  refine AFn_intro Try.func67 rfl Try.ntmps67 rfl (by simp) [_, _] rfl fun E hE => ?_
  have hle := lfAt_le k l
  refine wL ?_
  refine AW_loopI (fun j : Nat × Nat => ⟨[(0, entsA l), (3, .ptr 3 0 []), (6, .ptr 6 0 [])], [(3, .var k.av), (6, .var (.arr 2 1 [intA j.1, intA j.2]))]⟩) (fun j => j.1 ≤ lfAt k l ∧ lfAt k l ≤ j.2 ∧ j.2 ≤ l.length) (fun j => j.2 - j.1) (0, l.length) ⟨Nat.zero_le _, hle, Nat.le_refl _⟩ (by (refine Go2.sub ⟨?_, ?_, ?_⟩ <;> repeat' (first | exact True.intro | rfl | apply And.intro))) (fun j hj => ?_)
  obtain ⟨lo, hi⟩ := j
  obtain ⟨j1, j2, j3⟩ := hj
  dsimp only at j1 j2 j3 ⊢
  by_cases c : lo < hi
  · have hm : (lo + hi) / 2 < l.length := by omega
    have hit := lfAt_iff (k := k) h _ hm
    have c1 := acall Try.func72 (a_keycmp l[(lo + hi) / 2].key k) (by decide +kernel) (by decide +kernel)
    by_cases q : keyCmp l[(lo + hi) / 2].key k < 0
    · have q' := q
      rw [keyCmp_rank, sgn_neg] at q'
      refine wL ?_
      refine ⟨((lo + hi) / 2 + 1, hi), ⟨by dsimp only; omega, j2, j3⟩, by dsimp only; omega, ?_⟩
      (refine Go2.sub ⟨?_, ?_, ?_⟩ <;> repeat' (first | exact True.intro | rfl | apply And.intro))
    · have q' := q
      rw [keyCmp_rank, sgn_neg] at q'
      refine wL ?_
      refine ⟨(lo, (lo + hi) / 2), ⟨j1, by dsimp only; omega, by dsimp only; omega⟩, by dsimp only; omega, ?_⟩
      (refine Go2.sub ⟨?_, ?_, ?_⟩ <;> repeat' (first | exact True.intro | rfl | apply And.intro))
  · obtain rfl : lo = lfAt k l := by omega
    by_cases e : lfAt k l < l.length
    · rw [lfHit_at e]
      refine wL ?_
      exact fin ⟨res_of rfl rfl rfl, res_of rfl rfl rfl, trivial⟩
    · rw [lfHit_end e]
      refine wL ?_
      exact fin ⟨res_of rfl rfl rfl, res_of rfl rfl rfl, trivial⟩
set_option maxRecDepth 100000 in
set_option maxHeartbeats 4000000 in
theorem a_leaffind (l : List Ent) (k : Key) (h : Srt l) (hl : l.length ≤ 1000000000) : AFn Try.prog 62 [entsA l, k.av] (.tup [(opA (lfGet k l)).1.av, boolA (opA (lfGet k l)).2]) := by
  refine AFn_intro Try.func62 rfl Try.ntmps62 rfl (by simp) [_, _] rfl fun E hE => ?_
  have cp := a_leafplace l k h hl
  have hnt : (!true) = false := rfl
  have hnf : (!false) = true := rfl
  by_cases e : lfAt k l < l.length
  · by_cases q : l[lfAt k l].key = k
    · rw [lfHit_at e, decide_eq_true q] at cp
      rw [get_hit h e q]
      have c1 := acall Try.func67 (cp) (by decide +kernel) (by decide +kernel)
      refine wL ?_
      exact fin ⟨res_var rfl rfl rfl rfl, res_of rfl rfl rfl, trivial⟩
    · rw [lfHit_at e, decide_eq_false q] at cp
      rw [get_no h (fun _ => q)]
      have c1 := acall Try.func67 (cp) (by decide +kernel) (by decide +kernel)
      refine wL ?_
      exact fin ⟨res_var rfl rfl rfl rfl, res_of rfl rfl rfl, trivial⟩
  · rw [lfHit_end e] at cp
    rw [get_no h (fun hi => absurd hi e)]
    have c1 := acall Try.func67 (cp) (by decide +kernel) (by decide +kernel)
    refine wL ?_
    exact fin ⟨res_var rfl rfl rfl rfl, res_of rfl rfl rfl, trivial⟩
set_option maxRecDepth 100000 in
set_option maxHeartbeats 4000000 in
theorem a_ref07find (l : List Ent) (k : Key) (h : Srt l) (hl : l.length ≤ 1000000000) : AFn Try.prog 55 [entsA l, k.av] (.tup [(opA (lfGet k l)).1.av, boolA (opA (lfGet k l)).2]) := by
  refine AFn_intro Try.func55 rfl Try.ntmps55 rfl (by simp) [_, _] rfl fun E hE => ?_
  refine wL ?_
  refine AW_loopI (fun j : Nat => ⟨[(0, entsA l), (3, .ptr 3 0 []), (4, .ptr 4 0 []), (6, intA j)], [(3, .var k.av), (4, .var Vl.zero.av)]⟩) (fun j => j ≤ l.length ∧ ∀ i (hi : i < l.length), i < j → l[i].key ≠ k) (fun j => l.length - j) 0 ⟨Nat.zero_le _, fun i _ h => by omega⟩ (by (refine Go2.sub ⟨?_, ?_, ?_⟩ <;> repeat' (first | exact True.intro | rfl | apply And.intro))) (fun j hj => ?_)
  obtain ⟨j1, j2⟩ := hj
  by_cases c : j < l.length
  · by_cases q : l[j].key = k
    · rw [get_hit h c q]
      refine wL ?_
      exact fin ⟨res_var rfl rfl rfl rfl, res_of rfl rfl rfl, trivial⟩
    · refine wL ?_
      refine ⟨j + 1, ⟨c, fun i hi hij => ?_⟩, by omega, ?_⟩
      · by_cases e : i = j
        · subst e; exact q
        · exact j2 i hi (by omega)
      · (refine Go2.sub ⟨?_, ?_, ?_⟩ <;> repeat' (first | exact True.intro | rfl | apply And.intro))
  · rw [get_none (fun i hi => j2 i hi (by omega))]
    refine wL ?_
    exact fin ⟨res_var rfl rfl rfl rfl, res_of rfl rfl rfl, trivial⟩
end Go.Proofs.Ytphojngdgmnpaaa

namespace Go.Proofs.Ytphojngdgmnpaaa
open Go Go.RowKit
set_option linter.unusedVariables false
set_option linter.unusedSimpArgs false
set_option maxRecDepth 100000

/-- what the document's loop has put out behind j entries -/
def outP (l : List Ent) (p q : Nat) (new : List Ent) (j : Nat) : List Ent := l.take (min j p) ++ ((if p < j then new else []) ++ (l.take j).drop q)
theorem outP_zero (l : List Ent) (p q : Nat) (new : List Ent) : outP l p q new 0 = [] := by simp [outP]
theorem outP_lo {l : List Ent} {p q : Nat} {new : List Ent} {j : Nat} (hp : p ≤ q) (hj : j < p) (hl : j < l.length) : outP l p q new (j + 1) = outP l p q new j ++ [l[j]] := by
  unfold outP
  rw [if_neg (by omega), if_neg (by omega), Nat.min_eq_left (by omega), Nat.min_eq_left (by omega), List.drop_eq_nil_of_le (by simp; omega), List.drop_eq_nil_of_le (by simp; omega)]
  simp only [List.append_nil]
  exact (List.take_append_getElem hl).symm
theorem drop_take_snoc {l : List Ent} {q j : Nat} (hq : q ≤ j) (hl : j < l.length) : (l.take (j + 1)).drop q = (l.take j).drop q ++ [l[j]] := by
  rw [← List.take_append_getElem hl, List.drop_append_of_le_length (by simp; omega)]
theorem outP_no {l : List Ent} {p : Nat} {new : List Ent} (hl : p < l.length) : outP l p p new (p + 1) = (outP l p p new p ++ new) ++ [l[p]] := by
  unfold outP
  rw [if_pos (by omega), if_neg (by omega), Nat.min_eq_right (by omega), Nat.min_self, drop_take_snoc (Nat.le_refl _) hl, List.drop_eq_nil_of_le (by simp; omega)]
  simp
theorem outP_hit {l : List Ent} {p : Nat} {new : List Ent} (hl : p < l.length) : outP l p (p + 1) new (p + 1) = outP l p (p + 1) new p ++ new := by
  unfold outP
  rw [if_pos (by omega), if_neg (by omega), Nat.min_eq_right (by omega), Nat.min_self, List.drop_eq_nil_of_le (by simp; omega), List.drop_eq_nil_of_le (by simp; omega)]
  simp
theorem outP_hi {l : List Ent} {p q : Nat} {new : List Ent} {j : Nat} (hq : q ≤ j) (hj : p < j) (hl : j < l.length) : outP l p q new (j + 1) = outP l p q new j ++ [l[j]] := by
  unfold outP
  rw [if_pos (by omega), if_pos (by omega), Nat.min_eq_right (by omega), Nat.min_eq_right (by omega), drop_take_snoc hq hl]
  simp
theorem outP_end {l : List Ent} {p q : Nat} {new : List Ent} (hp : p < l.length) : outP l p q new l.length = l.take p ++ (new ++ l.drop q) := by
  unfold outP
  rw [if_pos hp, Nat.min_eq_right (by omega), List.take_length]
theorem outP_end' {l : List Ent} {p q : Nat} {new : List Ent} (hp : p = l.length) (hq : p ≤ q) : outP l p q new l.length ++ new = l.take p ++ (new ++ l.drop q) := by
  unfold outP
  rw [if_neg (by omega), Nat.min_eq_left (by omega), List.take_length, List.drop_eq_nil_of_le (by omega)]
  subst hp
  simp
theorem outP_len {l : List Ent} {p q : Nat} {new : List Ent} (j : Nat) (hn : new.length ≤ 1) : (outP l p q new j).length ≤ 2 * l.length + 1 := by
  unfold outP
  simp only [List.length_append, List.length_take, List.length_drop]
  split <;> simp <;> omega
attribute [local irreducible] OpOK AWops AW CondB Go2 AFn thenA inBlockA noGotoA orderOk wantedA
set_option maxRecDepth 100000 in
set_option maxHeartbeats 8000000 in
theorem a_ref07put (l : List Ent) (m : Msg) (h : Lf l) (hm : m.key.ok = true) (hl : l.length ≤ 1000000000) : AFn Try.prog 56 [entsA l, m.av] (entsA (lfPut l m)) := by
  refine AFn_intro Try.func56 rfl Try.ntmps56 rfl (by simp) [_] rfl fun E hE => ?_
  have c1 := a_ref07find l m.key h.srt hl
  have c2 := a_refapply (opA (lfGet m.key l)).1 (opA (lfGet m.key l)).2 m
  rw [applyM_ap] at c2
  unfold lfPut
  have d1 := acall Try.func55 (c1) (by decide +kernel) (by decide +kernel)
  have d2 := acall Try.func65 (c2) (by decide +kernel) (by decide +kernel)
  generalize ap m (lfGet m.key l) = r at d2 ⊢
  have hnt : (!true) = false := rfl
  have hnf : (!false) = true := rfl
  have hple := lfAt_le m.key l
  have hnl : (newE m.key r).length ≤ 1 := by unfold newE; cases r <;> simp
  obtain ⟨q, hq, hset, hcase⟩ : ∃ q, lfAt m.key l ≤ q ∧ lfSet l m.key r = l.take (lfAt m.key l) ++ (newE m.key r ++ l.drop q) ∧ ∀ (hi : lfAt m.key l < l.length), (q = lfAt m.key l + 1 ∧ refCmp l[lfAt m.key l].key m.key = 0) ∨ (q = lfAt m.key l ∧ 0 < refCmp l[lfAt m.key l].key m.key) := by
    by_cases e : ∃ hi : lfAt m.key l < l.length, l[lfAt m.key l].key = m.key
    · obtain ⟨hi, e⟩ := e
      exact ⟨_, Nat.le_succ _, set_hit h.srt r hi e, fun _ => .inl ⟨rfl, by rw [refCmp_rank (h.ok _ (List.getElem_mem hi)).1 hm, e, sgn_same]⟩⟩
    · refine ⟨_, Nat.le_refl _, set_no h hm r (fun hi e' => e ⟨hi, e'⟩), fun hi => .inr ⟨rfl, ?_⟩⟩
      have ho := (h.ok _ (List.getElem_mem hi)).1
      rw [refCmp_rank ho hm, sgn_pos]
      have h1 := (lfAt_iff (k := m.key) h.srt _ hi)
      have h2 : l[lfAt m.key l].key.rank ≠ m.key.rank := fun e' => e ⟨hi, (rank_inj ho hm).1 e'⟩
      omega
  rw [hset]
  have hlo : ∀ j (hj : j < l.length), j < lfAt m.key l → refCmp l[j].key m.key < 0 := fun j hj c => by
    rw [refCmp_rank (h.ok _ (List.getElem_mem hj)).1 hm, sgn_neg]; exact (lfAt_iff h.srt j hj).1 c
  have hhi : ∀ j (hj : j < l.length), lfAt m.key l < j → 0 < refCmp l[j].key m.key := fun j hj c => by
    rw [refCmp_rank (h.ok _ (List.getElem_mem hj)).1 hm, sgn_pos]
    have h1 := h.srt.lt (by omega) hj c
    have h2 := lfAt_iff (k := m.key) h.srt (lfAt m.key l) (by omega)
    omega
  generalize lfAt m.key l = p at hq hcase hlo hhi hple ⊢
  refine wB ?_
  refine AW_go (Go2.token 9 9 25 97 rfl rfl) ?_
  refine AW_loopI (fun j : Nat => ⟨[(0, entsA l), (3, .ptr 3 0 []), (7, .ptr 7 0 []), (8, boolA (opA r).2), (9, .sl (some 9) 26 ((outP l p q (newE m.key r) j).map Ent.av)), (10, boolA (decide (p < j))), (11, intA j)], [(3, .var m.av), (7, .var (opA r).1.av), (9, .tail 97 26 (outP l p q (newE m.key r) j).length)]⟩) (fun j => j ≤ l.length) (fun j => l.length - j) 0 (Nat.zero_le _) (by rw [outP_zero, decide_eq_false (Nat.not_lt_zero p)]; (refine Go2.sub ⟨?_, ?_, ?_⟩ <;> repeat' (first | exact True.intro | rfl | apply And.intro))) (fun j hj => ?_)
  have hol := outP_len (l := l) (p := p) (q := q) (new := newE m.key r) j hnl
  by_cases c : j < l.length
  · have d3 := acall Try.func66 (a_refcmp l[j].key m.key) (by decide +kernel) (by decide +kernel)
    rcases Nat.lt_trichotomy j p with c1 | c1 | c1
    · have hc := hlo j c c1
      have hs := outP_lo (new := newE m.key r) hq c1 c
      refine wB ?_
      refine ⟨j + 1, c, by omega, ?_⟩
      rw [hs, show decide (p < j + 1) = decide (p < j) from by rw [decide_eq_false (by omega), decide_eq_false (by omega)]]
      (refine Go2.sub ⟨?_, ?_, ?_⟩ <;> repeat' (first | exact True.intro | rfl | apply And.intro))
    · subst c1
      have hb : (!decide (j < j)) = true := by simp
      rcases hcase c with ⟨hqe, hc⟩ | ⟨hqe, hc⟩
      · subst hqe
        have hs := outP_hit (new := newE m.key r) c
        cases r with
        | none =>
          refine wB ?_
          refine ⟨j + 1, c, by omega, ?_⟩
          rw [hs, decide_eq_true (Nat.lt_succ_self j)]
          simp only [newE, List.append_nil]
          (refine Go2.sub ⟨?_, ?_, ?_⟩ <;> repeat' (first | exact True.intro | rfl | apply And.intro))
        | some v =>
          refine wB ?_
          refine ⟨j + 1, c, by omega, ?_⟩
          rw [hs, decide_eq_true (Nat.lt_succ_self j)]
          (refine Go2.sub ⟨?_, ?_, ?_⟩ <;> repeat' (first | exact True.intro | rfl | apply And.intro))
      · obtain rfl : j = q := hqe.symm
        have hs := outP_no (new := newE m.key r) c
        cases r with
        | none =>
          refine wB ?_
          refine ⟨j + 1, c, by omega, ?_⟩
          rw [hs, decide_eq_true (Nat.lt_succ_self j)]
          simp only [newE, List.append_nil]
          (refine Go2.sub ⟨?_, ?_, ?_⟩ <;> repeat' (first | exact True.intro | rfl | apply And.intro))
        | some v =>
          have hn1 : (outP l j j (newE m.key (some v)) j ++ ([⟨m.key, v⟩] : List Ent)).length ≤ 2 * l.length + 2 := by simp; omega
          refine wB ?_
          refine ⟨j + 1, c, by omega, ?_⟩
          rw [hs, decide_eq_true (Nat.lt_succ_self j)]
          (refine Go2.sub ⟨?_, ?_, ?_⟩ <;> repeat' (first | exact True.intro | rfl | apply And.intro))
    · have hc := hhi j c c1
      have hb : (!decide (p < j)) = false := by simp; omega
      have hqj : q ≤ j := by rcases hcase (by omega) with ⟨e, _⟩ | ⟨e, _⟩ <;> omega
      have hs := outP_hi (new := newE m.key r) hqj c1 c
      refine wB ?_
      refine ⟨j + 1, c, by omega, ?_⟩
      rw [hs, show decide (p < j + 1) = decide (p < j) from by rw [decide_eq_true (by omega), decide_eq_true (by omega)]]
      (refine Go2.sub ⟨?_, ?_, ?_⟩ <;> repeat' (first | exact True.intro | rfl | apply And.intro))
  · obtain rfl : j = l.length := by omega
    by_cases e : p < l.length
    · have hb : (!decide (p < l.length)) = false := by simp; omega
      rw [← outP_end e]
      refine wB ?_
      exact fin ⟨res_sl rfl, trivial⟩
    · have hb : (!decide (p < l.length)) = true := by simp; omega
      have hs := outP_end' (new := newE m.key r) (show p = l.length by omega) hq
      cases r with
      | none =>
        rw [← hs]
        simp only [newE, List.append_nil]
        refine wB ?_
        exact fin ⟨res_sl rfl, trivial⟩
      | some v =>
        rw [← hs]
        refine wB ?_
        exact fin ⟨res_sl rfl, trivial⟩
end Go.Proofs.Ytphojngdgmnpaaa

namespace Go.Proofs.Ytphojngdgmnpaaa
open Go Go.RowKit
set_option linter.unusedVariables false
set_option linter.unusedSimpArgs false
set_option maxRecDepth 100000

section
variable {E : Env} {nt : Nat} {ops : Array Oper} {T : Nat → Option AV} {H : Hp} {d : Option Nat} {ty : TypeId} {pos : String} {af : Array Edge} {gd : Option (Nat × Bool)}
theorem o_make0 {α : Type} (f : α → AV) {t e : TypeId} {es bytes : Nat} {ea : Bool} {x y : Operand} {k k' : IntKind} {n : Nat} {g : Nat} (hd : dOk nt (some g) = true) (hs : tabT.ti t = some (.sl e (es + 1) bytes ea)) (hx : evalO T x = some (.v (.int k 0))) (hy : evalO T y = some (.v (.int k' (n : Nat)))) (hg : H g = none) (hb : bytes * n ≤ 140737488355328) (hn : n ≤ 9223372036854775807) :
    OpOK Try.prog E nt ops ⟨some g, .makeSlice t x y, ty, pos, af, gd⟩ T H [] ⟨.sl (some g) (es + 1) (([] : List α).map f), [(g, .tail e (es + 1) ([] : List α).length)]⟩ := ok_make0 tabT hd hs hx hy hg hb hn
end
attribute [local irreducible] OpOK AWops AW CondB Go2 AFn thenA inBlockA noGotoA orderOk wantedA
set_option maxRecDepth 100000 in
set_option maxHeartbeats 8000000 in
theorem a_leafput (l : List Ent) (m : Msg) (h : Lf l) (hm : m.key.ok = true) (hk : 1 ≤ m.kind ∧ m.kind ≤ 3) (hl : l.length ≤ 1000000000) : AFn Try.prog 64 [entsA l, m.av] (entsA (lfPut l m)) := by
  refine AFn_intro Try.func64 rfl Try.ntmps64 rfl (by simp) [_] rfl fun E hE => ?_
  have c1 := a_leafplace l m.key h.srt hl
  have c2 := a_apply (opA (lfGet m.key l)).1 (opA (lfGet m.key l)).2 m hk
  rw [applyM_ap] at c2
  have hple := lfAt_le m.key l
  unfold lfPut
  by_cases e : ∃ hi : lfAt m.key l < l.length, l[lfAt m.key l].key = m.key
  · obtain ⟨hi, e⟩ := e
    rw [set_hit h.srt _ hi e]
    rw [get_hit h.srt hi e] at c2 ⊢
    rw [lfHit_at hi, decide_eq_true e] at c1
    have hd : (l.drop (lfAt m.key l + 1)).length ≤ l.length := by simp
    generalize lfAt m.key l = p at c1 hple hi e hd ⊢
    have d1 := acall Try.func67 (c1) (by decide +kernel) (by decide +kernel)
    have d2 := acall Try.func69 (c2) (by decide +kernel) (by decide +kernel)
    generalize ap m (some l[p].val) = r at d2 ⊢
    have hp : (l.take p).length ≤ l.length := by rw [List.length_take]; omega
    cases r with
    | none =>
      have d3 : ACall 69 [l[p].val.av, boolA true, m.av] (.tup [Vl.zero.av, boolA false]) := d2
      rw [show l.take p ++ (newE m.key none ++ l.drop (p + 1)) = ([] ++ l.take p) ++ l.drop (p + 1) from by simp [newE]]
      refine wL ?_
      (apply Wb; (focus (exact o_make0 Ent.av (n := l.length + 1) rfl rfl rfl rfl rfl (by omega) (by omega))); (focus (first | exact want_n | exact want_g rfl (by with_reducible rfl))))
      refine wL ?_
      exact fin ⟨res_sl rfl, trivial⟩
    | some v =>
      have d3 : ACall 69 [l[p].val.av, boolA true, m.av] (.tup [v.av, boolA true]) := d2
      rw [show l.take p ++ (newE m.key (some v) ++ l.drop (p + 1)) = (([] ++ l.take p) ++ [⟨m.key, v⟩]) ++ l.drop (p + 1) from by simp [newE]]
      refine wL ?_
      (apply Wb; (focus (exact o_make0 Ent.av (n := l.length + 1) rfl rfl rfl rfl rfl (by omega) (by omega))); (focus (first | exact want_n | exact want_g rfl (by with_reducible rfl))))
      refine wL ?_
      refine Was 55 (AV.sl (some 55) 26 [Ent.av ⟨m.key, v⟩]) rfl ?_
      refine wL ?_
      exact fin ⟨res_sl rfl, trivial⟩
  · have hn : ∀ hi : lfAt m.key l < l.length, l[lfAt m.key l].key ≠ m.key := fun hi e' => e ⟨hi, e'⟩
    rw [set_no h hm _ hn]
    rw [get_no h.srt hn] at c2 ⊢
    have c1' : AFn Try.prog 67 [entsA l, m.key.av] (.tup [intA (lfAt m.key l : Nat), boolA false]) := by
      by_cases hi : lfAt m.key l < l.length
      · rwa [lfHit_at hi, decide_eq_false (hn hi)] at c1
      · rwa [lfHit_end hi] at c1
    clear c1 hn e
    generalize lfAt m.key l = p at c1' hple ⊢
    have d1 := acall Try.func67 (c1') (by decide +kernel) (by decide +kernel)
    have d2 := acall Try.func69 (c2) (by decide +kernel) (by decide +kernel)
    generalize ap m none = r at d2 ⊢
    have hp : (l.take p).length ≤ l.length := by rw [List.length_take]; omega
    cases r with
    | none =>
      have d3 : ACall 69 [Vl.zero.av, boolA false, m.av] (.tup [Vl.zero.av, boolA false]) := d2
      rw [show l.take p ++ (newE m.key none ++ l.drop (p)) = ([] ++ l.take p) ++ l.drop (p) from by simp [newE]]
      refine wL ?_
      (apply Wb; (focus (exact o_make0 Ent.av (n := l.length + 1) rfl rfl rfl rfl rfl (by omega) (by omega))); (focus (first | exact want_n | exact want_g rfl (by with_reducible rfl))))
      refine wL ?_
      exact fin ⟨res_sl rfl, trivial⟩
    | some v =>
      have d3 : ACall 69 [Vl.zero.av, boolA false, m.av] (.tup [v.av, boolA true]) := d2
      rw [show l.take p ++ (newE m.key (some v) ++ l.drop (p)) = (([] ++ l.take p) ++ [⟨m.key, v⟩]) ++ l.drop (p) from by simp [newE]]
      refine wL ?_
      (apply Wb; (focus (exact o_make0 Ent.av (n := l.length + 1) rfl rfl rfl rfl rfl (by omega) (by omega))); (focus (first | exact want_n | exact want_g rfl (by with_reducible rfl))))
      refine wL ?_
      refine Was 55 (AV.sl (some 55) 26 [Ent.av ⟨m.key, v⟩]) rfl ?_
      refine wL ?_
      exact fin ⟨res_sl rfl, trivial⟩
end Go.Proofs.Ytphojngdgmnpaaa

namespace Go.Proofs.Ytphojngdgmnpaaa
open Go Go.RowKit
set_option linter.unusedVariables false
set_option linter.unusedSimpArgs false
set_option maxRecDepth 100000

theorem a_lplace (v n : Int) (h0 : 0 < n) (h1 : n ≤ 9223372036854775807) (hv : -9223372036854775808 ≤ v ∧ v ≤ 9223372036854775807) : AFn Try.prog 17 [intA v, intA n] (intA (v % n)) := fun U w vs h => by
  obtain ⟨v1, us, rfl, k1, h⟩ := rdp_one h
  obtain ⟨v2, us, rfl, k2, h⟩ := rdp_one h
  obtain rfl := rdp_nil h
  rw [int_arg k1, int_arg k2]
  exact (lplace_any v n w h0 h1 hv).mono fun e w' ⟨q1, q2⟩ => ⟨_, q1, is_v (w := w) rfl, by rw [q2]; exact Ext.refl w⟩
end Go.Proofs.Ytphojngdgmnpaaa

namespace Go.Proofs.Ytphojngdgmnpaaa
open Go Go.RowKit
set_option linter.unusedVariables false
set_option linter.unusedSimpArgs false
set_option maxRecDepth 100000

def vByte (k i : Nat) : BitVec 8 := BitVec.ofInt 8 ((k : Int) / 17 + (i : Int) * ((k : Int) / 4352))
def vText (k : Nat) : List (BitVec 8) := (List.range (k % 17)).map (vByte k)
def lawVl (v : Int) : Vl := mkVl (vText (v % 1099511627776).toNat)
theorem vText_len (k : Nat) : (vText k).length = k % 17 := by simp [vText]
/-- the row behind j bytes -/
def vRow (k j : Nat) : List (BitVec 8) := (vText k).take j ++ List.replicate (k % 17 - j) 0#8
theorem vRow_zero (k : Nat) : vRow k 0 = List.replicate (k % 17) 0#8 := by simp [vRow]
theorem vRow_end (k : Nat) : vRow k (k % 17) = vText k := by
  unfold vRow
  rw [List.take_of_length_le (by rw [vText_len]; exact Nat.le_refl _)]
  simp
theorem vRow_len (k j : Nat) (h : j ≤ k % 17) : (vRow k j).length = k % 17 := by
  unfold vRow
  rw [List.length_append, List.length_take, List.length_replicate, vText_len]
  omega
theorem vRow_set (k j : Nat) (h : j < k % 17) : (vRow k j).set j (vByte k j) = vRow k (j + 1) := by
  unfold vRow
  have hl : ((vText k).take j).length = j := by rw [List.length_take, vText_len]; omega
  rw [List.set_append, if_neg (by omega), hl, Nat.sub_self, show k % 17 - j = (k % 17 - (j + 1)) + 1 by omega, List.replicate_succ, List.set_cons_zero]
  rw [← List.take_append_getElem (show j < (vText k).length by rw [vText_len]; exact h)]
  simp [vText]
theorem a_refvlof (xs : List (BitVec 8)) (h : xs.length ≤ 16) : AFn Try.prog 40 [.v (.string (bytesOf xs))] (.tup [(mkVl xs).av, intA 0]) := fun U w vs hr => by
  obtain ⟨v1, us, rfl, h1, hr⟩ := rdp_one hr
  obtain rfl := rdp_nil hr
  rw [(Rdv_v.1 h1).2]
  have := refvlof_any xs w
  rw [if_pos h] at this
  exact ofIs this fun w' => by
    rw [Rdv_tup]
    refine ⟨[.agg (mkVl xs).arr, .int .i64 0], rfl, ?_⟩
    simp only [Rdp]
    exact ⟨(mkVl xs).arr.toList, [.int .i64 0], rfl, Vl.rd.2 rfl, [.int .i64 0], [], rfl, (rd_v rfl).2 rfl, rfl⟩
attribute [local irreducible] OpOK AWops AW CondB Go2 AFn thenA inBlockA noGotoA orderOk wantedA
set_option maxRecDepth 100000 in
set_option maxHeartbeats 4000000 in
theorem a_lval (v : Int) (hv : -9223372036854775808 ≤ v ∧ v ≤ 9223372036854775807) : AFn Try.prog 21 [intA v] (lawVl v).av := by
  refine AFn_intro Try.func21 rfl Try.ntmps21 rfl (by simp) [_] rfl fun E hE => ?_
  obtain ⟨k, hk⟩ : ∃ k : Nat, v % 1099511627776 = (k : Int) := ⟨(v % 1099511627776).toNat, by omega⟩
  have hlt : k < 1099511627776 := by omega
  have hlv : lawVl v = mkVl (vText k) := by unfold lawVl; rw [hk]; rfl
  rw [hlv]
  have c1 := a_lplace v 1099511627776 (by omega) (by omega) hv
  rw [hk] at c1
  have c2 := a_refvlof (vText k) (by rw [vText_len]; omega)
  have d1 := acall Try.func17 (c1) (by decide +kernel) (by decide +kernel)
  have d2 := acall Try.func40 (c2) (by decide +kernel) (by decide +kernel)
  refine wS ?_
  refine Wri 13 ((k % 17 : Nat) : Int) rfl (by omega) ?_
  refine wS ?_
  (apply Wb; (focus (exact o_make (f := byteA) (x0 := 0#8) (n := k % 17) rfl rfl rfl rfl rfl rfl (by omega) (by omega))); (focus (first | exact want_n | exact want_g rfl (by with_reducible rfl))))
  refine wS ?_
  refine AW_loopI (fun j : Nat => ⟨[(2, .ptr 2 0 []), (3, intA k), (4, intA (k % 17 : Nat)), (5, .seg 14 0 1 [] (k % 17) (k % 17)), (6, intA j)], [(2, .var Vl.zero.av), (14, .var (.arr (k % 17 * 1) 1 ((vRow k j).map byteA)))]⟩) (fun j => j ≤ k % 17) (fun j => k % 17 - j) 0 (Nat.zero_le _) (by rw [vRow_zero]; (refine Go2.sub ⟨?_, ?_, ?_⟩ <;> repeat' (first | exact True.intro | rfl | apply And.intro))) (fun j hj => ?_)
  by_cases c : j < k % 17
  · have hs := vRow_set k j c
    have hl := vRow_len k j hj
    have hm : (j : Int) * ((k : Int) / 4352) ≤ 17 * 252645136 := by
      have h1 : (j : Int) ≤ 17 := by omega
      have h2 : (k : Int) / 4352 ≤ 252645136 := by omega
      have h3 : 0 ≤ (k : Int) / 4352 := by omega
      exact Int.mul_le_mul h1 h2 h3 (by omega)
    have hm0 : 0 ≤ (j : Int) * ((k : Int) / 4352) := Int.mul_nonneg (by omega) (by omega)
    generalize hmm : (j : Int) * ((k : Int) / 4352) = mm at hm hm0
    refine wS ?_
    (apply Ws; (focus (exact o_stm (f := byteA) (b := vByte k j) rfl (by unfold vByte; rw [hmm]; rfl) rfl (by omega) rfl rfl (fun _ => rfl) rfl rfl)); (focus (first | exact want_n | exact want_g rfl (by with_reducible rfl))))
    refine wS ?_
    refine ⟨j + 1, by omega, by omega, ?_⟩
    (refine Go2.sub ⟨?_, ?_, ?_⟩ <;> repeat' (first | exact True.intro | rfl | apply And.intro))
    all_goals (rw [hs]; rfl)
  · obtain rfl : j = k % 17 := by omega
    rw [vRow_end]
    have hl := vText_len k
    refine AW_go (Go2.froz hE 14 rfl) ?_
    refine AW_go (Go2.seg 5 14 rfl rfl rfl rfl (by simp; omega)) ?_
    refine AW_go (Go2.as 5 (.sl none 1 ((vText k).map byteA)) (by rw [← hl, ← List.length_map (f := byteA), List.take_length]; rfl)) ?_
    refine wS ?_
    exact fin ⟨res_var rfl rfl rfl rfl, trivial⟩
/-- the laws' message by a number -/
def lawMsg (v seq : Int) : Msg :=
  let k := v % 1099511627776
  ⟨1 + k % 3, BitVec.ofInt 64 (seq % 1099511627776), lawKey (k / 4), if k % 3 = 0 then lawVl (k / 64) else Vl.zero, if k % 3 = 2 then BitVec.ofInt 64 (k / 1024) * BitVec.ofInt 64 65537 else 0#64⟩
end Go.Proofs.Ytphojngdgmnpaaa

namespace Go.Proofs.Ytphojngdgmnpaaa
open Go Go.RowKit
set_option linter.unusedVariables false
set_option linter.unusedSimpArgs false
set_option maxRecDepth 100000

/-! ### plain law -/
def keyOf (s : ByteArray) : Key × Int := if s.size ≤ 8 then (mkKey (bitsOf s), 0) else (Key.zero, 2)
def vlOf (s : ByteArray) : Vl × Int := if s.size ≤ 16 then (mkVl (bitsOf s), 0) else (Vl.zero, 2)
def large (o : Opn) : Bool := decide (8 < o.key.size) || (decide (o.kind = 1) && decide (16 < o.val.size))
theorem key_zero_ok : Key.zero.ok = true := by
  rw [Key.ok_iff]
  exact ⟨by decide, by decide, by decide⟩
theorem keyOf_ok (s : ByteArray) : (keyOf s).1.ok = true := by
  unfold keyOf
  split
  · exact mkKey_ok _ (by rw [bitsOf_length]; assumption)
  · exact key_zero_ok
theorem vlOf_ok (s : ByteArray) : (vlOf s).1.ok = true := by
  unfold vlOf
  split
  · exact mkVl_ok _ (by rw [bitsOf_length]; assumption)
  · exact Vl.zero_ok
/-- the message that an operation is -/
def msgOf (o : Opn) : Msg := ⟨o.kind, 0#64, (keyOf o.key).1, if o.kind = 1 then (vlOf o.val).1 else Vl.zero, if o.kind = 3 then o.add else 0#64⟩
/-- what an operation does -/
def mdDo (l : List Ent) (o : Opn) : List Ent × Ans :=
  if large o then (l, ⟨2, false, Vl.zero⟩) else
  if o.kind = 4 then (l, ⟨0, (opA (lfGet (keyOf o.key).1 l)).2, (opA (lfGet (keyOf o.key).1 l)).1⟩) else
  if o.kind < 1 ∨ 4 < o.kind then (l, ⟨1, false, Vl.zero⟩) else (lfPut l (msgOf o), ⟨0, false, Vl.zero⟩)
theorem res_yesm {P : Program} {S : St} {t : Nat} {p : Prop} [Decidable p] (hx : S.t t = some (.v (.bool (decide p)))) (hp : p) : Res1 P S (.tmp t) (boolA true) := res_of (by rw [hx, decide_eq_true hp]; rfl) rfl rfl
theorem res_nom {P : Program} {S : St} {t : Nat} {p : Prop} [Decidable p] (hx : S.t t = some (.v (.bool (decide p)))) (hp : ¬ p) : Res1 P S (.tmp t) (boolA false) := res_of (by rw [hx, decide_eq_false hp]; rfl) rfl rfl
theorem wM {Q R : Prop} (k : R) (h : Hid R → Q := by intro kHid; (repeat (first | (first | refine Wend _ ?_ | refine AW_seq ?_ | refine AW_reg ?_ | refine AW_drw mixed ?_ | refine AW_block ?_ | refine AW_scope ?_ | refine thenA_n ?_ | refine blockA_n ?_ | refine blockA_h ?_ | refine scopeA_n ?_ | refine thenA_r ?_ | refine blockA_r ?_ | refine scopeA_r ?_ | refine thenA_e ?_ | refine scopeA_e ?_ | refine blockA_e rfl ?_ | refine AW_exit ?_ | refine AW_ret ?_ | refine AW_skip ?_ | refine AW_c rfl ?_ | with_reducible refine cb_t ?_ | with_reducible refine cb_f ?_ | with_reducible refine cb_yes (by first | assumption | omega) ?_ | with_reducible refine cb_no (by first | assumption | omega) ?_ | refine And.intro (by decide +kernel) ?_) | (first | (apply Wv; (focus (first | exact step_ok rfl rfl | exact o_idx rfl rfl rfl rfl (by first | assumption | omega | decide) | exact o_idx3 rfl rfl rfl rfl (by first | assumption | omega | decide) | exact o_idx2 rfl rfl rfl rfl rfl (by first | assumption | omega | decide) | exact o_idxr rfl rfl rfl rfl rfl rfl | exact o_lenm rfl rfl rfl | exact o_len rfl rfl rfl | exact o_len0 rfl rfl rfl | exact o_lens rfl rfl rfl | exact o_lent rfl rfl | exact o_add1 rfl rfl rfl (by omega) | exact o_addn rfl rfl rfl (by omega) | exact o_add rfl rfl rfl (by omega) | exact o_sub1 rfl rfl rfl (by omega) | exact o_sub rfl rfl rfl (by omega) | exact o_mul rfl rfl rfl (by omega) | exact o_rem rfl rfl rfl (by omega) | exact ok_rem rfl rfl rfl (by decide) rfl | exact o_eqKey rfl rfl rfl | exact o_neKey rfl rfl rfl | exact o_eqVl rfl rfl rfl | exact o_neVl rfl rfl rfl | exact o_eqEnt rfl rfl rfl | exact o_neEnt rfl rfl rfl | exact o_eqMsg rfl rfl rfl | exact o_neMsg rfl rfl rfl | exact o_acall rfl rfl rfl rfl (by assumption) | exact o_minn rfl rfl rfl | exact o_cutl rfl rfl rfl rfl (by omega) | exact o_cuth rfl rfl rfl rfl (by omega) | exact o_cutl3 rfl rfl rfl rfl (by omega) | exact o_cuth3 rfl rfl rfl rfl (by omega) | exact o_cutl2 rfl rfl rfl rfl rfl (by omega) | exact o_cuth2 rfl rfl rfl rfl rfl (by omega) | exact o_cutlh2 rfl rfl rfl rfl rfl rfl rfl (by omega) (by omega) | exact o_bld zero_Opn rfl rfl rfl rfl rfl rfl rfl | exact o_bld zero_Ans rfl rfl rfl rfl rfl rfl rfl | exact o_eqAns rfl rfl rfl | exact o_neAns rfl rfl rfl | exact e_bld rfl rfl rfl | exact e_bldk rfl rfl | exact z_bld0 rfl rfl rfl rfl rfl | exact z_bld rfl rfl rfl rfl rfl rfl rfl | exact o_addu rfl rfl rfl | exact z_blda rfl rfl rfl rfl rfl rfl rfl rfl rfl | exact o_idxa rfl rfl rfl rfl rfl rfl | exact o_idxra rfl rfl rfl rfl rfl rfl rfl | exact o_quo2 rfl rfl rfl (by omega) | exact o_quo rfl rfl rfl (by omega))); (focus (first | exact want_n | exact want_g rfl (by with_reducible rfl)))) | (apply Wb; (focus (first | exact o_box rfl rfl rfl rfl | exact o_app rfl rfl rfl rfl rfl (by first | exact o_many rfl | exact o_one _ _ rfl) (by first | omega | (simp; omega) | simp) (by first | omega | (simp; omega) | simp) | exact o_appn rfl rfl rfl rfl rfl (by first | exact o_many rfl | exact o_one _ _ rfl) (by first | omega | (simp; omega) | simp) (by first | omega | (simp; omega) | simp) | exact o_app1 rfl rfl rfl rfl rfl (by first | exact o_many rfl | exact o_one _ _ rfl) (by exact rfl) (by first | omega | (simp; omega) | simp) (by first | omega | (simp; omega) | simp) | exact o_app0 rfl rfl rfl rfl rfl (by first | exact o_many rfl | exact o_one _ _ rfl) (by first | omega | (simp; omega) | simp) (by first | omega | (simp; omega) | simp) | exact o_bsl0 rfl rfl rfl | exact z_bsll rfl rfl rfl rfl rfl rfl rfl rfl rfl | exact z_alloc rfl rfl rfl | exact o_alloc zero_Opn rfl rfl | exact o_alloc zero_Ans rfl rfl | exact o_bsll zero_Ans rfl rfl rfl rfl rfl rfl rfl rfl | exact o_bsll zero_Opn rfl rfl rfl rfl rfl rfl rfl rfl)); (focus (first | exact want_n | exact want_g rfl (by with_reducible rfl)))) | (apply Ws; (focus (exact ok_store tabT (d := none) rfl rfl rfl rfl rfl rfl rfl rfl rfl rfl)); (focus (first | exact want_n | exact want_g rfl (by with_reducible rfl)))) | (refine Wskip (by first | exact want_f rfl (by with_reducible exact b_nt) | exact want_f rfl (by with_reducible exact b_nf) | exact want_t rfl) rfl ?_) | refine Wgt rfl rfl (by first | assumption | omega | exact rfl) ?_ | refine Wgf rfl rfl (by first | assumption | omega | exact rfl) ?_ | (refine Wgb rfl rfl (by with_reducible assumption) ?_) | (refine cb_is _ (by assumption) ?_)))); exact kHid.out) : Q := h ⟨k⟩
/-! ### bytes copied into an array -/
theorem bytesAV_bits (s : ByteArray) : bytesAV s = (bitsOf s).map byteA := by
  unfold bytesAV bitsOf
  rw [List.map_map]
  refine List.map_congr_left fun b _ => ?_
  simp only [Function.comp, byteA, B8_def]
  rfl
theorem over_list {m : Nat} (b : Vector (BitVec 8) m) (ys : List (BitVec 8)) (h : ys.length ≤ m) : (over b ys).toList = ys ++ b.toList.drop ys.length := by
  apply List.ext_getElem
  · simp; omega
  · intro i h1 h2
    have hi : i < m := by simpa using h1
    rw [Vector.getElem_toList, over_get b ys i hi]
    by_cases c : i < ys.length
    · rw [List.getElem_append_left c, List.getElem?_eq_getElem c]; rfl
    · rw [List.getElem_append_right (by omega), List.getElem?_eq_none (by omega)]
      simp [show ys.length + (i - ys.length) = i by omega]
section
variable {E : Env} {nt : Nat} {ops : Array Oper} {T : Nat → Option AV} {H : Hp} {d : Option Nat} {ty : TypeId} {pos : String} {af : Array Edge} {gd : Option (Nat × Bool)}
theorem o_cutarr {t e : TypeId} {tn len es : Nat} {ea : Bool} {x : Operand} {g off : Nat} {p : List Nat} (hd : dOk nt d = true) (hs : tabT.ti t = some (.arr tn (len + 1) es ea e)) (hx : evalO T x = some (.ptr g off p)) (hl : Nat.blt len 9223372036854775807 = true) :
    OpOK Try.prog E nt ops ⟨d, .slice t x none none none, ty, pos, af, gd⟩ T H [] ⟨.seg g off es p (len + 1) (len + 1), []⟩ :=
  ok_cut_arr tabT hd hs hx (show BndA T none (len + 1) (len + 1) from rfl) (Nat.le_refl _) (by simpa using hl)
theorem o_cpbytes {x y : Operand} {t tx e : TypeId} {bytes : Nat} {ea : Bool} {g off cap m : Nat} {p : List Nat} {z z' src : AV} {b : Vector (BitVec 8) m} {ys : List (BitVec 8)} (hd : dOk nt d = true) (hs : tabT.ti t = some (.sl e 1 bytes ea)) (hx : evalO T x = some (.seg g off 1 p m cap)) (hy : evalO T y = some src) (hsrc : SrcNOf Try.prog 1 src (ys.map byteA))
    (hg : H g = some (.var z)) (hp : subA p z = some (vecA b)) (ho : offA p z = off) (hz : setA (vecA (over b ys)) p z = some z') (hle : ys.length ≤ m) :
    OpOK Try.prog E nt ops ⟨d, .call { callee := .builtin .copy, args := #[x, y], argTypes := #[t, tx] }, ty, pos, af, gd⟩ T H [g] ⟨.v (.int .i64 (ys.length : Nat)), [(g, .var z')]⟩ := by
  have hmin : min (ys.map byteA).length m = ys.length := by rw [List.length_map]; omega
  have h := ok_copy tabT (E := E) (nt := nt) (ops := ops) (T := T) (H := H) (d := d) (ty := ty) (pos := pos) (af := af) (gd := gd) (x := x) (y := y) (t := t) (tx := tx) (g := g) (off := off) (len := m) (cap := cap) (m := m) (p := p) (z := z) (z' := z') (src := src) (xs := b.toList.map byteA) (ys := ys.map byteA) hd hs hx hy hsrc hg hp ho (by simp) (by
    rw [hmin]
    rw [← hz, vecA, over_list b ys hle, List.map_append, List.map_drop]
    rw [List.take_of_length_le (by simp)])
  rw [hmin] at h
  exact h
theorem o_cpstr {x y : Operand} {t tx e : TypeId} {bytes : Nat} {ea : Bool} {g off cap m : Nat} {p : List Nat} {z z' : AV} {b : Vector (BitVec 8) m} {s : ByteArray} (hd : dOk nt d = true) (hs : tabT.ti t = some (.sl e 1 bytes ea)) (hx : evalO T x = some (.seg g off 1 p m cap)) (hy : evalO T y = some (.v (.string s)))
    (hg : H g = some (.var z)) (hp : subA p z = some (vecA b)) (ho : offA p z = off) (hz : setA (vecA (over b (bitsOf s))) p z = some z') (hle : s.size ≤ m) :
    OpOK Try.prog E nt ops ⟨d, .call { callee := .builtin .copy, args := #[x, y], argTypes := #[t, tx] }, ty, pos, af, gd⟩ T H [g] ⟨.v (.int .i64 (s.size : Nat)), [(g, .var z')]⟩ := by
  have h := o_cpbytes (E := E) (nt := nt) (ops := ops) (ty := ty) (pos := pos) (af := af) (gd := gd) (tx := tx) hd hs hx hy (by rw [← bytesAV_bits]; exact srcn_str) hg hp ho hz (by rw [bitsOf_length]; exact hle)
  rw [bitsOf_length] at h
  exact h
end
section
variable {E : Env} {nt : Nat} {ops : Array Oper} {T : Nat → Option AV} {H : Hp} {d : Option Nat} {ty : TypeId} {pos : String} {af : Array Edge} {gd : Option (Nat × Bool)}
/-- a text's bytes, in a row of their own that nobody writes -/
theorem o_convt {s t e : TypeId} {x : Operand} {l : ByteArray} (hs : Try.prog.underlying s = some .string) (ht : Try.prog.underlying t = some (.slice e)) (he : Try.prog.underlying e = some (.int .u8)) (hd : dOk nt d = true) (hx : evalO T x = some (.v (.string l))) (hl : l.size ≤ maxLen) :
    OpOK Try.prog E nt ops ⟨d, .convert s t x, ty, pos, af, gd⟩ T H [] ⟨.sl none 1 ((bitsOf l).map byteA), []⟩ :=
  ok_eff hd fun B T' H' a w r hto hh hw => by
    have hxv := r.evalv ((hto x (by simp [Op.operands])).trans hx)
    have hcv := run_bytes_of_string (P := Try.prog) w s t e l hs ht he
    have hcap := grownCap_ge w l.size 0 e
    have hcap2 := grownCap_le_maxLen w l.size 0 e hl
    have r1 : Rel E nt B T' H' a (w.drew.alloc (.cells (bytesRow l (grownCap w l.size 0 e)) e ((bytesRow l (grownCap w l.size 0 e)).size, (bytesRow l (grownCap w l.size 0 e)).size + 1))) := r.drew.ext ((Ext.refl _).alloc _)
    refine ⟨_, _, B, by simp only [execOp, hxv, Sem.run_bind, hcv]; rfl, r1, ?_⟩
    have hlen : ((bitsOf l).map byteA).length = l.size := by rw [List.length_map, bitsOf_length]
    rw [Rdv_not (by simp)]
    refine ⟨[.slice (some ⟨w.heap.size, 0, none⟩) l.size (grownCap w l.size 0 e)], ?_, rfl⟩
    simp only [Rd]
    refine ⟨some ⟨w.heap.size, 0, none⟩, grownCap w l.size 0 e, by rw [hlen], by rw [hlen]; exact hcap, hcap2, fun _ => ?_, fun t ht => (by cases ht)⟩
    have hnew : (w.drew.alloc (.cells (bytesRow l (grownCap w l.size 0 e)) e ((bytesRow l (grownCap w l.size 0 e)).size, (bytesRow l (grownCap w l.size 0 e)).size + 1))).heap[w.heap.size]? = some (.cells (bytesRow l (grownCap w l.size 0 e)) e ((bytesRow l (grownCap w l.size 0 e)).size, (bytesRow l (grownCap w l.size 0 e)).size + 1)) := heap_alloc_new _ _
    refine ⟨w.heap.size, 0, (bitsOf l).map (fun x => Value.int .u8 (B8 x)), rfl, ?_, fun o _ _ hu => ?_, (rdu_bytes _).2 rfl⟩
    · rw [row_block hnew]
      unfold rowOf
      rw [hlen, if_pos (by simp [bytesRow])]
      congr 1
      apply Array.ext'
      simp only [bytesRow, Nat.mul_one, Nat.zero_add]
      have hb : bitsOf l = l.data.toList.map (·.toBitVec) := rfl
      rw [hb, List.map_map]
      have hsz : l.size = l.data.toList.length := rfl
      rw [Array.toList_extract, List.extract_eq_take_drop]
      simp only [Array.toList_append, Array.toList_map, Array.toList_replicate, Nat.sub_zero, List.drop_zero]
      rw [List.take_append_of_le_length (by simp), List.take_of_length_le (by simp)]
      refine List.map_congr_left fun b _ => ?_
      simp only [Function.comp, B8_def]
      rfl
    · have := r.mem.unst_lt hu
      omega
end
/-! ### contracts -/
theorem a_vlof (xs : List (BitVec 8)) (h : xs.length ≤ 16) : AFn Try.prog 68 [.sl none 1 (xs.map byteA)] (mkVl xs).av := fun U w vs hr => by
  obtain ⟨v1, us, rfl, h1, hr⟩ := rdp_one hr
  obtain rfl := rdp_nil hr
  exact ofIs (vlof_any v1 xs w (sl_bytes_of h1) h) fun w' => dVl.rdv.2 rfl
theorem a_refvlofs (s : ByteArray) : AFn Try.prog 40 [strA s] (.tup [(vlOf s).1.av, intA (vlOf s).2]) := fun U w vs hr => by
  obtain ⟨v1, us, rfl, h1, hr⟩ := rdp_one hr
  obtain rfl := rdp_nil hr
  rw [(Rdv_v.1 h1).2, ← bytes_bits s]
  refine ofIs (refvlof_any (bitsOf s) w) fun w' => ?_
  rw [bytes_bits, Rdv_tup]
  have hl := bitsOf_length s
  unfold vlOf
  by_cases h : s.size ≤ 16
  · rw [if_pos (by omega), if_pos h]
    refine ⟨[.agg (mkVl (bitsOf s)).arr, .int .i64 0], rfl, ?_⟩
    simp only [Rdp]
    exact ⟨(mkVl (bitsOf s)).arr.toList, [.int .i64 0], rfl, Vl.rd.2 rfl, [.int .i64 0], [], rfl, (rd_v rfl).2 rfl, rfl⟩
  · rw [if_neg (by omega), if_neg h]
    refine ⟨[.agg Vl.zero.arr, .int .i64 2], rfl, ?_⟩
    simp only [Rdp]
    exact ⟨Vl.zero.arr.toList, [.int .i64 2], rfl, Vl.rd.2 rfl, [.int .i64 2], [], rfl, (rd_v rfl).2 rfl, rfl⟩
theorem a_refkeyofs (s : ByteArray) : AFn Try.prog 54 [strA s] (.tup [(keyOf s).1.av, intA (keyOf s).2]) := fun U w vs hr => by
  obtain ⟨v1, us, rfl, h1, hr⟩ := rdp_one hr
  obtain rfl := rdp_nil hr
  rw [(Rdv_v.1 h1).2, ← bytes_bits s]
  refine ofIs (refkeyof_any (bitsOf s) w) fun w' => ?_
  rw [bytes_bits, Rdv_tup]
  have hl := bitsOf_length s
  unfold keyOf
  by_cases h : s.size ≤ 8
  · rw [if_pos (by omega), if_pos h]
    refine ⟨[.agg (mkKey (bitsOf s)).arr, .int .i64 0], rfl, ?_⟩
    simp only [Rdp]
    exact ⟨(mkKey (bitsOf s)).arr.toList, [.int .i64 0], rfl, Key.rd.2 rfl, [.int .i64 0], [], rfl, (rd_v rfl).2 rfl, rfl⟩
  · rw [if_neg (by omega), if_neg h]
    refine ⟨[.agg Key.zero.arr, .int .i64 2], rfl, ?_⟩
    simp only [Rdp]
    exact ⟨Key.zero.arr.toList, [.int .i64 2], rfl, Key.rd.2 rfl, [.int .i64 2], [], rfl, (rd_v rfl).2 rfl, rfl⟩
attribute [local irreducible] OpOK AWops AW CondB Go2 AFn thenA inBlockA noGotoA orderOk wantedA
set_option maxRecDepth 100000 in
set_option maxHeartbeats 4000000 in
theorem a_keyofs (s : ByteArray) : AFn Try.prog 61 [strA s] (.tup [(keyOf s).1.av, intA (keyOf s).2]) := by
  refine AFn_intro Try.func61 rfl Try.ntmps61 rfl (by simp) [_, _] rfl fun E hE => ?_
  unfold keyOf
  by_cases h : s.size ≤ 8
  · have h' : ¬ (8 : Int) < (s.size : Nat) := by omega
    rw [if_pos h]
    refine wM ?_
    apply Wv; (focus (exact o_cutarr rfl rfl rfl rfl)); (focus (first | exact want_n | exact want_g rfl (by with_reducible rfl)))
    refine wM ?_
    apply Wb; (focus (exact o_cpstr (b := Key.zero.b) rfl rfl rfl rfl rfl rfl rfl rfl h)); (focus (first | exact want_n | exact want_g rfl (by with_reducible rfl)))
    refine wM ?_
    have e : (mkKey (bitsOf s)).av = .agg 9 [.v (.int .i64 s.size), vecA (over Key.zero.b (bitsOf s))] := by
      unfold mkKey Key.av
      rw [bitsOf_length, ← over_zero]
      rfl
    rw [e]
    exact fin ⟨res_var rfl rfl rfl rfl, res_of rfl rfl rfl, trivial⟩
  · have h' : (8 : Int) < (s.size : Nat) := by omega
    rw [if_neg h]
    refine wM ?_
    exact fin ⟨res_var rfl rfl rfl rfl, res_of rfl rfl rfl, trivial⟩
set_option maxRecDepth 100000 in
set_option maxHeartbeats 4000000 in
theorem a_vlofs (s : ByteArray) : AFn Try.prog 63 [strA s] (.tup [(vlOf s).1.av, intA (vlOf s).2]) := by
  refine AFn_intro Try.func63 rfl Try.ntmps63 rfl (by simp) [_, _] rfl fun E hE => ?_
  unfold vlOf
  by_cases h : s.size ≤ 16
  · have h' : ¬ (16 : Int) < (s.size : Nat) := by omega
    rw [if_pos h]
    have c0 := a_vlof (bitsOf s) (by rw [bitsOf_length]; exact h)
    have c1 := acall Try.func68 (c0) (by decide +kernel) (by decide +kernel)
    refine wM ?_
    apply Wv; (focus (exact o_convt Try.underlying9 Try.underlying33 Try.underlying5 rfl rfl (by unfold maxLen; omega))); (focus (first | exact want_n | exact want_g rfl (by with_reducible rfl)))
    refine wM ?_
    exact fin ⟨res_var rfl rfl rfl rfl, res_of rfl rfl rfl, trivial⟩
  · have h' : (16 : Int) < (s.size : Nat) := by omega
    rw [if_neg h]
    refine wM ?_
    exact fin ⟨res_var rfl rfl rfl rfl, res_of rfl rfl rfl, trivial⟩
set_option maxRecDepth 100000 in
set_option maxHeartbeats 4000000 in
theorem a_histlarge (o : Opn) : AFn Try.prog 51 [o.av] (boolA (large o)) := by
  refine AFn_intro Try.func51 rfl Try.ntmps51 rfl (by simp) [_] rfl fun E hE => ?_
  unfold large
  by_cases h : 8 < o.key.size
  · have h' : (8 : Int) < (o.key.size : Nat) := by omega
    rw [decide_eq_true h, Bool.true_or]
    refine wM ?_
    exact fin ⟨res_of rfl rfl rfl, trivial⟩
  · have h' : ¬ (8 : Int) < (o.key.size : Nat) := by omega
    rw [decide_eq_false h, Bool.false_or]
    by_cases k : o.kind = 1
    · rw [decide_eq_true k, Bool.true_and]
      by_cases q : 16 < o.val.size
      · have q' : (16 : Int) < (o.val.size : Nat) := by omega
        rw [decide_eq_true q]
        refine wM ?_
        exact fin ⟨res_yesm rfl q', trivial⟩
      · have q' : ¬ (16 : Int) < (o.val.size : Nat) := by omega
        rw [decide_eq_false q]
        refine wM ?_
        exact fin ⟨res_nom rfl q', trivial⟩
    · rw [decide_eq_false k, Bool.false_and]
      refine wM ?_
      exact fin ⟨res_of rfl rfl rfl, trivial⟩
set_option maxRecDepth 100000 in
set_option maxHeartbeats 4000000 in
theorem a_ref23large (o : Opn) : AFn Try.prog 27 [o.av] (boolA (large o)) := by
  refine AFn_intro Try.func27 rfl Try.ntmps27 rfl (by simp) [_] rfl fun E hE => ?_
  unfold large
  by_cases h : 8 < o.key.size
  · have h' : (8 : Int) < (o.key.size : Nat) := by omega
    rw [decide_eq_true h, Bool.true_or]
    refine wM ?_
    exact fin ⟨res_of rfl rfl rfl, trivial⟩
  · have h' : ¬ (8 : Int) < (o.key.size : Nat) := by omega
    rw [decide_eq_false h, Bool.false_or]
    by_cases k : o.kind = 1
    · rw [decide_eq_true k, Bool.true_and]
      by_cases q : 16 < o.val.size
      · have q' : (16 : Int) < (o.val.size : Nat) := by omega
        rw [decide_eq_true q]
        refine wM ?_
        exact fin ⟨res_yesm rfl q', trivial⟩
      · have q' : ¬ (16 : Int) < (o.val.size : Nat) := by omega
        rw [decide_eq_false q]
        refine wM ?_
        exact fin ⟨res_nom rfl q', trivial⟩
    · rw [decide_eq_false k, Bool.false_and]
      refine wM ?_
      exact fin ⟨res_of rfl rfl rfl, trivial⟩
end Go.Proofs.Ytphojngdgmnpaaa

namespace Go.Proofs.Ytphojngdgmnpaaa
open Go Go.RowKit
set_option linter.unusedVariables false
set_option linter.unusedSimpArgs false
set_option maxRecDepth 100000

def mdFind (l : List Ent) (s : ByteArray) : Vl × Bool := if s.size ≤ 8 then opA (lfGet (keyOf s).1 l) else (Vl.zero, false)
attribute [local irreducible] OpOK AWops AW CondB Go2 AFn thenA inBlockA noGotoA orderOk wantedA
set_option maxRecDepth 100000 in
set_option maxHeartbeats 4000000 in
theorem a_refdo (l : List Ent) (o : Opn) (h : Lf l) (hl : l.length ≤ 1000000000) : AFn Try.prog 39 [entsA l, o.av] (.tup [entsA (mdDo l o).1, (mdDo l o).2.av]) := by
  refine AFn_intro Try.func39 rfl Try.ntmps39 rfl (by simp) [_, _] rfl fun E hE => ?_
  have c1 := a_ref23large o
  unfold mdDo
  cases hL : large o with
  | true =>
    rw [hL] at c1
    have d1 := acall Try.func27 (c1) (by decide +kernel) (by decide +kernel)
    rw [if_pos rfl]
    refine wM ?_
    exact fin ⟨res_sl rfl, res_var rfl rfl rfl rfl, trivial⟩
  | false =>
  rw [hL] at c1
  have d1 := acall Try.func27 (c1) (by decide +kernel) (by decide +kernel)
  rw [if_neg (by simp)]
  have d2 := acall Try.func54 (a_refkeyofs o.key) (by decide +kernel) (by decide +kernel)
  by_cases k4 : o.kind = 4
  · rw [if_pos k4]
    have d3 := acall Try.func55 (a_ref07find l (keyOf o.key).1 h.srt hl) (by decide +kernel) (by decide +kernel)
    have n1 : ¬ o.kind = 1 := by omega
    have n3 : ¬ o.kind = 3 := by omega
    have n2 : ¬ o.kind = 2 := by omega
    refine wM ?_
    exact fin ⟨res_sl rfl, res_var rfl rfl rfl rfl, trivial⟩
  rw [if_neg k4]
  by_cases kr : o.kind < 1 ∨ 4 < o.kind
  · rw [if_pos kr]
    have n1 : ¬ o.kind = 1 := by omega
    have n3 : ¬ o.kind = 3 := by omega
    have n2 : ¬ o.kind = 2 := by omega
    by_cases kl : o.kind < 1
    · refine wM ?_
      exact fin ⟨res_sl rfl, res_var rfl rfl rfl rfl, trivial⟩
    · have kg : 4 < o.kind := by omega
      refine wM ?_
      exact fin ⟨res_sl rfl, res_var rfl rfl rfl rfl, trivial⟩
  rw [if_neg kr]
  have q1 : ¬ o.kind < 1 := by omega
  have q2 : ¬ 4 < o.kind := by omega
  have d4 := acall Try.func56 (a_ref07put l (msgOf o) h (keyOf_ok _) hl) (by decide +kernel) (by decide +kernel)
  by_cases k1 : o.kind = 1
  · have e1 : (msgOf o).av = .agg 29 [intA o.kind, u64A 0#64, (keyOf o.key).1.av, (vlOf o.val).1.av, u64A 0#64] := by
      unfold msgOf Msg.av
      rw [if_pos k1, if_neg (by omega)]
    have d5 := acall Try.func40 (a_refvlofs o.val) (by decide +kernel) (by decide +kernel)
    rw [e1] at d4
    have n3 : ¬ o.kind = 3 := by omega
    refine wM ?_
    exact fin ⟨res_sl rfl, res_var rfl rfl rfl rfl, trivial⟩
  by_cases k3 : o.kind = 3
  · have e1 : (msgOf o).av = .agg 29 [intA o.kind, u64A 0#64, (keyOf o.key).1.av, Vl.zero.av, u64A o.add] := by
      unfold msgOf Msg.av
      rw [if_neg k1, if_pos k3]
    rw [e1] at d4
    refine wM ?_
    exact fin ⟨res_sl rfl, res_var rfl rfl rfl rfl, trivial⟩
  have k2 : o.kind = 2 := by omega
  have e1 : (msgOf o).av = .agg 29 [intA o.kind, u64A 0#64, (keyOf o.key).1.av, Vl.zero.av, u64A 0#64] := by
    unfold msgOf Msg.av
    rw [if_neg k1, if_neg k3]
  rw [e1] at d4
  refine wM ?_
  exact fin ⟨res_sl rfl, res_var rfl rfl rfl rfl, trivial⟩
set_option maxRecDepth 100000 in
set_option maxHeartbeats 4000000 in
theorem a_mdo (l : List Ent) (o : Opn) (h : Lf l) (hl : l.length ≤ 1000000000) : AFn Try.prog 50 [entsA l, o.av] (.tup [entsA (mdDo l o).1, (mdDo l o).2.av]) := by
  refine AFn_intro Try.func50 rfl Try.ntmps50 rfl (by simp) [_, _] rfl fun E hE => ?_
  have c1 := a_histlarge o
  unfold mdDo
  cases hL : large o with
  | true =>
    rw [hL] at c1
    have d1 := acall Try.func51 (c1) (by decide +kernel) (by decide +kernel)
    rw [if_pos rfl]
    refine wM ?_
    exact fin ⟨res_sl rfl, res_var rfl rfl rfl rfl, trivial⟩
  | false =>
  rw [hL] at c1
  have d1 := acall Try.func51 (c1) (by decide +kernel) (by decide +kernel)
  rw [if_neg (by simp)]
  have d2 := acall Try.func61 (a_keyofs o.key) (by decide +kernel) (by decide +kernel)
  by_cases k4 : o.kind = 4
  · rw [if_pos k4]
    have d3 := acall Try.func62 (a_leaffind l (keyOf o.key).1 h.srt hl) (by decide +kernel) (by decide +kernel)
    have n1 : ¬ o.kind = 1 := by omega
    have n3 : ¬ o.kind = 3 := by omega
    have n2 : ¬ o.kind = 2 := by omega
    refine wM ?_
    exact fin ⟨res_sl rfl, res_var rfl rfl rfl rfl, trivial⟩
  rw [if_neg k4]
  by_cases kr : o.kind < 1 ∨ 4 < o.kind
  · rw [if_pos kr]
    have n1 : ¬ o.kind = 1 := by omega
    have n3 : ¬ o.kind = 3 := by omega
    have n2 : ¬ o.kind = 2 := by omega
    refine wM ?_
    exact fin ⟨res_sl rfl, res_var rfl rfl rfl rfl, trivial⟩
  rw [if_neg kr]
  have q1 : ¬ o.kind < 1 := by omega
  have q2 : ¬ 4 < o.kind := by omega
  have hk : 1 ≤ (msgOf o).kind ∧ (msgOf o).kind ≤ 3 := by show 1 ≤ o.kind ∧ o.kind ≤ 3; omega
  have d4 := acall Try.func64 (a_leafput l (msgOf o) h (keyOf_ok _) hk hl) (by decide +kernel) (by decide +kernel)
  by_cases k1 : o.kind = 1
  · have e1 : (msgOf o).av = .agg 29 [intA o.kind, u64A 0#64, (keyOf o.key).1.av, (vlOf o.val).1.av, u64A 0#64] := by
      unfold msgOf Msg.av
      rw [if_pos k1, if_neg (by omega)]
    have d5 := acall Try.func63 (a_vlofs o.val) (by decide +kernel) (by decide +kernel)
    rw [e1] at d4
    have n3 : ¬ o.kind = 3 := by omega
    refine wM ?_
    exact fin ⟨res_sl rfl, res_var rfl rfl rfl rfl, trivial⟩
  by_cases k3 : o.kind = 3
  · have e1 : (msgOf o).av = .agg 29 [intA o.kind, u64A 0#64, (keyOf o.key).1.av, Vl.zero.av, u64A o.add] := by
      unfold msgOf Msg.av
      rw [if_neg k1, if_pos k3]
    rw [e1] at d4
    refine wM ?_
    exact fin ⟨res_sl rfl, res_var rfl rfl rfl rfl, trivial⟩
  have k2 : o.kind = 2 := by omega
  have e1 : (msgOf o).av = .agg 29 [intA o.kind, u64A 0#64, (keyOf o.key).1.av, Vl.zero.av, u64A 0#64] := by
    unfold msgOf Msg.av
    rw [if_neg k1, if_neg k3]
  rw [e1] at d4
  refine wM ?_
  exact fin ⟨res_sl rfl, res_var rfl rfl rfl rfl, trivial⟩
end Go.Proofs.Ytphojngdgmnpaaa

namespace Go.Proofs.Ytphojngdgmnpaaa
open Go Go.RowKit
set_option linter.unusedVariables false
set_option linter.unusedSimpArgs false
set_option maxRecDepth 100000
set_option linter.unusedSectionVars false

mutual
theorem ren_id : ∀ (x : AV), renA (fun c => c) x = x
  | .v x => rfl
  | .agg n fs => by simp only [renA, ren_idL fs]
  | .arr m n xs => rfl
  | .ptr _ _ _ => rfl
  | .ref x => rfl
  | .sl none n xs => rfl
  | .sl (some t) n xs => rfl
  | .seg _ _ _ _ _ _ => rfl
  | .tup vs => by simp only [renA, ren_idL vs]
  | .fn f a b => by simp only [renA, ren_idL a, ren_idL b]
  | .ifc t x => by simp only [renA, ren_id x]
  | .own _ _ _ _ => rfl
theorem ren_idL : ∀ (xs : List AV), renL (fun c => c) xs = xs
  | [] => rfl
  | x :: xs => by simp only [renL, ren_id x, ren_idL xs]
end
/-- a live box's block is of cells -/
theorem Mem.cells {E : Env} {B : Blk} {H : Hp} {w : World} (m : Mem E B H w) {g b : Nat} {bx : Bx} (h : H g = some bx) (hl : liveB bx = true) (hb : B g = some b) : ∃ cs t fr, w.heap[b]? = some (.cells cs t fr) := by
  have h1 := m.box g bx h
  cases bx with
  | var x => obtain ⟨b', cs, t, k1, k2, _⟩ := h1; rw [hb] at k1; injection k1 with k1; subst k1; exact ⟨_, _, _, k2⟩
  | froz x => cases hl
  | tail e n k =>
    rcases h1.2.2 with ⟨k1, _⟩ | ⟨b', cur, cap, k1, k2, _⟩
    · rw [hb] at k1; cases k1
    · rw [hb] at k1; injection k1 with k1; subst k1; exact ⟨_, _, _, k2⟩
  | own e n xs =>
    rcases h1.2.2 with ⟨k1, _⟩ | ⟨b', cur, cap, c, k1, k2, _⟩
    · rw [hb] at k1; cases k1
    · rw [hb] at k1; injection k1 with k1; subst k1; exact ⟨_, _, _, k2⟩
def noCells (w : World) (l : Nat) : Prop := ∀ cs t fr, w.heap[l]? ≠ some (.cells cs t fr)
/-- worlds that differ at one block that is no cells -/
structure Twin (l : Nat) (w w' : World) : Prop where
  size : w'.heap.size = w.heap.size
  heap : ∀ k, k ≠ l → w'.heap[k]? = w.heap[k]?
  no : noCells w l
  no' : noCells w' l
  os : w'.os = w.os
  tape : w'.tape = w.tape
  output : w'.output = w.output
theorem Twin.symm {l : Nat} {w w' : World} (t : Twin l w w') : Twin l w' w := ⟨t.size.symm, fun k hk => (t.heap k hk).symm, t.no', t.no, t.os.symm, t.tape.symm, t.output.symm⟩
theorem Twin.put {l : Nat} {w : World} {o o' : Obj} (h : w.heap[l]? = some o) (hc : ∀ cs t fr, o ≠ .cells cs t fr) (hc' : ∀ cs t fr, o' ≠ .cells cs t fr) : Twin l w (w.putObj l o') :=
  ⟨World.putObj_size, fun k hk => World.putObj_heap_other hk, fun cs t fr e => by rw [h] at e; injection e with e; exact hc _ _ _ e, fun cs t fr e => by
    rw [World.putObj_heap_same (Array.getElem?_eq_some_iff.1 h).1] at e; injection e with e; exact hc' _ _ _ e, rfl, rfl, rfl⟩
theorem Twin.refl {l : Nat} {w : World} (h : noCells w l) : Twin l w w := ⟨rfl, fun _ _ => rfl, h, h, rfl, rfl, rfl⟩
theorem Twin.cells {l : Nat} {w w' : World} (t : Twin l w w') {b : Nat} {cs : Array Value} {ty : TypeId} {fr : Nat × Nat} (h : w.heap[b]? = some (.cells cs ty fr)) : w'.heap[b]? = some (.cells cs ty fr) := by
  rw [t.heap b (fun e => by subst e; exact t.no _ _ _ h)]; exact h
theorem Twin.evo {l : Nat} {w w' : World} (t : Twin l w w') (U : Uns) : Evo U w w' := ⟨Nat.le_of_eq t.size.symm, fun b cs ty fr h => ⟨cs, t.cells h, rfl, fun _ _ => rfl⟩⟩
/-! ### the rounds -/
def recOf (fn : FuncId) (tm : Array Value) (ps : Array Tmp) (assign body : Code) (D : Nat) : Loop := { state := .ready, pending := none, fn, tmps := tm, params := ps, assign, body, defers := D }
/-- a call of yield, handed args, with the boxes H1 in hand: it hands back r, and leaves the boxes H2; some boxes' blocks are known -/
def YFn (P : Program) (l : Nat) (rc : Loop) (bs : List (Nat × Nat)) (args : List AV) (H1 : List (Nat × Bx)) (r : AV) (H2 : List (Nat × Bx)) : Prop :=
  ∀ (n : Nat) (E : Env) (B : Blk) (w : World) (vs : List Value), E.df = [] → E.w0 = w → ¬ E.ent l → Mem E B (hL H1) w → (∀ p ∈ bs, B p.1 = some p.2) → w.heap[l]? = some (.loop rc) → Rdp (unst E B (hL H1)) w args B (hL H1) vs →
    ∃ fn tmps assign body, (Instr.yield l vs.toArray).run P w = .ok (.round l fn tmps assign body) w ∧ RoundIn Fence.wide n P l fn tmps assign body w fun e w' => ∃ v B2, e = .returned v ∧ Mem E B2 (hL H2) w' ∧ Rdv (unst E B2 (hL H2)) w' B2 (hL H2) r v
section
variable {F : Fence} {n : Nat} {P : Program} {E : Env} {nt : Nat} {S : St} {Q : Exit → St → Prop}
end
/-- the held slots: pointers to variables whose blocks are known -/
def bsOf (gs : List (Nat × Nat)) (bk : Nat → Nat) : List (Nat × Nat) := gs.map fun p => (p.2, bk p.2)
def ptrsOf (gs : List (Nat × Nat)) : List (Nat × AV) := gs.map fun p => (p.1, .ptr p.2 0 [])
def HeldOk (gs : List (Nat × Nat)) (bk : Nat → Nat) (tm : Array Value) : Prop := ∀ p ∈ gs, tm[p.1]? = some (.pointer (some ⟨bk p.2, 0, none⟩))
/-! ### past a call of yield -/
section
variable {F : Fence} {n : Nat} {P : Program} {E : Env} {nt : Nat} {ops : Array Oper} {Q : Exit → Act → World → Prop} {K : St → List Rec → Prop}
end
/-- where a range's iterator begins: the record stands in the world, the boxes of known blocks were handed in -/
structure RangeX (l : Nat) (rc : Loop) (bs : List (Nat × Nat)) (E : Env) : Prop where
  rc0 : E.w0.heap[l]? = some (.loop rc)
  ne : ¬ E.ent l
  eb : ∀ p ∈ bs, E.eb p.1 = some (0, some p.2)
/-! ### the statement -/
end Go.Proofs.Ytphojngdgmnpaaa

namespace Go.Proofs.Ytphojngdgmnpaaa
open Go Go.RowKit
set_option linter.unusedVariables false
set_option linter.unusedSimpArgs false
set_option maxRecDepth 100000

/-! ### plain law -/
def mdStep (s : List Ent × List Ans) (o : Opn) : List Ent × List Ans := ((mdDo s.1 o).1, s.2 ++ [(mdDo s.1 o).2])
def mdF (l : List Ent) (ops : List Opn) (j : Nat) : List Ent × List Ans := (ops.take j).foldl mdStep (l, [])
def mdRun (l : List Ent) (ops : List Opn) : List Ent × List Ans := ops.foldl mdStep (l, [])
theorem msgOf_ok {o : Opn} (h1 : 1 ≤ o.kind) (h3 : o.kind ≤ 3) : (msgOf o).ok = true := by
  have hk : (msgOf o).key.ok = true := keyOf_ok _
  unfold Msg.ok
  rw [hk]
  unfold msgOf
  by_cases k1 : o.kind = 1
  · simp [k1, vlOf_ok]
  · by_cases k3 : o.kind = 3
    · simp [k3]
    · simp [k1, k3, h1, h3]
theorem mdDo_lf {l : List Ent} (h : Lf l) (o : Opn) : Lf (mdDo l o).1 := by
  unfold mdDo
  split
  · exact h
  · split
    · exact h
    · split
      · exact h
      · exact lf_put h (msgOf_ok (by omega) (by omega))
theorem mdDo_len (l : List Ent) (o : Opn) : (mdDo l o).1.length ≤ l.length + 1 := by
  unfold mdDo
  split
  · exact Nat.le_succ _
  · split
    · exact Nat.le_succ _
    · split
      · exact Nat.le_succ _
      · exact put_len _ _
/-! ### a variable that is nil, as a row to be appended to -/
section
variable {E : Env} {nt : Nat} {ops : Array Oper} {T : Nat → Option AV} {H : Hp} {d : Nat} {ty : TypeId} {pos : String} {af : Array Edge} {gd : Option (Nat × Bool)}
end
/-- Run's own boxes, as its rounds have them -/
def hRun (l : List Ent) (outs : List Ans) : List (Nat × Bx) := [(1002, .var (entsA l)), (1006, .var (.sl (some 1020) 19 (outs.map Ans.av))), (1020, .tail 44 19 outs.length)]
/-- .. and the iterator's, beside them -/
def hIt (l : List Ent) (outs : List Ans) (ops : List Opn) : List (Nat × Bx) := hRun l outs ++ [(1003, .var (opsA ops)), (1012, .var (entsA l))]
attribute [local irreducible] OpOK AWops AW CondB Go2 AFn thenA inBlockA noGotoA orderOk wantedA
end Go.Proofs.Ytphojngdgmnpaaa

namespace Go.Proofs.Ytphojngdgmnpaaa
open Go Go.RowKit
set_option linter.unusedVariables false
set_option linter.unusedSimpArgs false
set_option maxRecDepth 100000

def EBd (l : List Ent) : Prop := ∀ e ∈ l, (0 ≤ e.key.n ∧ e.key.n ≤ 8) ∧ (0 ≤ e.val.n ∧ e.val.n ≤ 16)
theorem EOk.bd {l : List Ent} (h : EOk l) : EBd l := fun e he => ⟨Key.n_le (h e he).1, Vl.n_le (h e he).2⟩
theorem EBd.sum : ∀ {l : List Ent}, EBd l → 2 * (l.length : Int) ≤ eSum l ∧ eSum l ≤ 26 * (l.length : Int)
  | [], _ => by simp [eSum]
  | e :: l, h => by
    have h1 := EBd.sum (l := l) (fun x hx => h x (List.mem_cons_of_mem _ hx))
    have h2 := h e (by simp)
    have h3 : eSum (e :: l) = e.size + eSum l := by simp [eSum]
    unfold Ent.size at h3
    rw [h3]
    simp only [List.length_cons]
    omega
theorem EBd.take {l : List Ent} (h : EBd l) (j : Nat) : EBd (l.take j) := fun e he => h e (List.mem_of_mem_take he)
theorem EBd.drop {l : List Ent} (h : EBd l) (j : Nat) : EBd (l.drop j) := fun e he => h e (List.mem_of_mem_drop he)
/-- entries of a leaf, by neighbours -/
def EntsOk (cmp : Key → Key → Int) (l : List Ent) : Prop := ∀ j (h : j < l.length), l[j].key.ok = true ∧ l[j].val.ok = true ∧ ∀ i (hi : i + 1 = j), cmp (l[i]'(by omega)).key l[j].key < 0
noncomputable def entsOkB (cmp : Key → Key → Int) (l : List Ent) : Bool := @decide (EntsOk cmp l) (Classical.propDecidable _)
attribute [local irreducible] OpOK AWops AW CondB Go2 AFn thenA inBlockA noGotoA orderOk wantedA
end Go.Proofs.Ytphojngdgmnpaaa

namespace Go.Proofs.Ytphojngdgmnpaaa
open Go Go.RowKit
set_option linter.unusedVariables false
set_option linter.unusedSimpArgs false
set_option maxRecDepth 100000

def entMsg (x : Int) : Msg := ⟨1, 0#64, lawKey (x % 1099511627776), lawVl (x % 1099511627776 / 16), 0#64⟩
def entStep (most : Int) (out : List Ent) (x : Int) : List Ent := if eSum (lfPut out (entMsg x)) ≤ most then lfPut out (entMsg x) else out
def entsF (l : List Int) (most : Int) (j : Nat) : List Ent := (l.take j).foldl (entStep most) []
def entList (l : List Int) (most : Int) : List Ent := entsF l most 80
attribute [local irreducible] OpOK AWops AW CondB Go2 AFn thenA inBlockA noGotoA orderOk wantedA
end Go.Proofs.Ytphojngdgmnpaaa

namespace Go.Proofs.Ytphojngdgmnpaaa
open Go Go.RowKit
set_option linter.unusedVariables false
set_option linter.unusedSimpArgs false
set_option maxRecDepth 100000

@[irreducible] def Vl.txt (k : Vl) : List (BitVec 8) := if k.ok then cut k.b k.n.toNat else []
theorem Vl.txt_ok {k : Vl} (h : k.ok = true) : k.txt = cut k.b k.n.toNat := by unfold Vl.txt; rw [if_pos h]
theorem Vl.txt_no {k : Vl} (h : k.ok = false) : k.txt = [] := by unfold Vl.txt; rw [if_neg (by rw [h]; simp)]
set_option maxRecDepth 100000 in
set_option maxHeartbeats 4000000 in
theorem reftext_any (k : Key) (w : World) : Calls Try.prog 42 #[.agg k.arr] w (Is w (.string (bytesOf k.txt))) := by
  cases hok : k.ok
  · have htx := Key.txt_no hok
    go_enter Try.func42, Try.ntmps42
    go_wp2_with fail
    refine (refkeycheck_any _ _).mono ?_
    rintro e w1 ⟨rfl, he1⟩
    go_wp2
    go_ret
    exact ⟨by rw [htx, bytesOf_nil]; rfl, (by repeat (first | exact Ext.refl _ | assumption | refine Ext.drew ?_ | refine Ext.drewN ?_ _ | refine Ext.alloc ?_ _ | refine Ext.trans ?_ (by assumption)))⟩
  · have htx := Key.txt_ok hok
    obtain ⟨h0, h8, -⟩ := (Key.ok_iff k).1 hok
    obtain ⟨kn, kb⟩ := k
    obtain ⟨n, rfl⟩ : ∃ n : Nat, kn = (n : Int) := ⟨kn.toNat, by simp at h0; omega⟩
    have hn8 : n ≤ 8 := by simp at h8; omega
    have hn8' : (n : Int) ≤ 8 := by omega
    have HT := Lib.hid htx
    clear htx
    go_enter Try.func42, Try.ntmps42
    go_wp2_with fail
    refine (refkeycheck_any _ _).mono ?_
    rintro e w1 ⟨rfl, he1⟩
    have hr : row? w1 w.heap.size 0 9 = some (Key.mk (n : Int) kb).arr := he1.row (by simp [go_sem])
    have hc := row_cell hr (j := 0) (by omega) (Key.arr_n _)
    have hs := sl_of_bArr (g := w.heap.size) (o := 1) (w := w1) (b := kb) (by rw [← Nat.zero_add 1, row_sub hr 1 8 (by omega)]; exact Key.row_b _) n 8 hn8 hn8 (by unfold maxLen; omega)
    have hcv := run_str_sl Try.underlying33 Try.underlying5 Try.underlying9 hs
    clear hs
    simp only [Nat.zero_add] at hc
    go_wp2
    go_ret
    exact ⟨by rw [HT.out]; rfl, (by repeat (first | exact Ext.refl _ | assumption | refine Ext.drew ?_ | refine Ext.drewN ?_ _ | refine Ext.alloc ?_ _ | refine Ext.trans ?_ (by assumption)))⟩
set_option maxRecDepth 100000 in
set_option maxHeartbeats 4000000 in
theorem refvtext_any (k : Vl) (w : World) : Calls Try.prog 44 #[.agg k.arr] w (Is w (.string (bytesOf k.txt))) := by
  cases hok : k.ok
  · have htx := Vl.txt_no hok
    go_enter Try.func44, Try.ntmps44
    go_wp2_with fail
    refine (refvlcheck_any _ _).mono ?_
    rintro e w1 ⟨rfl, he1⟩
    go_wp2
    go_ret
    exact ⟨by rw [htx, bytesOf_nil]; rfl, (by repeat (first | exact Ext.refl _ | assumption | refine Ext.drew ?_ | refine Ext.drewN ?_ _ | refine Ext.alloc ?_ _ | refine Ext.trans ?_ (by assumption)))⟩
  · have htx := Vl.txt_ok hok
    obtain ⟨h0, h8, -⟩ := (Vl.ok_iff k).1 hok
    obtain ⟨kn, kb⟩ := k
    obtain ⟨n, rfl⟩ : ∃ n : Nat, kn = (n : Int) := ⟨kn.toNat, by simp at h0; omega⟩
    have hn8 : n ≤ 16 := by simp at h8; omega
    have hn8' : (n : Int) ≤ 16 := by omega
    have HT := Lib.hid htx
    clear htx
    go_enter Try.func44, Try.ntmps44
    go_wp2_with fail
    refine (refvlcheck_any _ _).mono ?_
    rintro e w1 ⟨rfl, he1⟩
    have hr : row? w1 w.heap.size 0 17 = some (Vl.mk (n : Int) kb).arr := he1.row (by simp [go_sem])
    have hc := row_cell hr (j := 0) (by omega) (Vl.arr_n _)
    have hs := sl_of_bArr (g := w.heap.size) (o := 1) (w := w1) (b := kb) (by rw [← Nat.zero_add 1, row_sub hr 1 16 (by omega)]; exact Vl.row_b _) n 16 hn8 hn8 (by unfold maxLen; omega)
    have hcv := run_str_sl Try.underlying33 Try.underlying5 Try.underlying9 hs
    clear hs
    simp only [Nat.zero_add] at hc
    go_wp2
    go_ret
    exact ⟨by rw [HT.out]; rfl, (by repeat (first | exact Ext.refl _ | assumption | refine Ext.drew ?_ | refine Ext.drewN ?_ _ | refine Ext.alloc ?_ _ | refine Ext.trans ?_ (by assumption)))⟩
theorem a_reftext (k : Key) : AFn Try.prog 42 [k.av] (strA (bytesOf k.txt)) := fun U w vs h => by
  obtain ⟨v1, us, rfl, h1, h⟩ := rdp_one h
  obtain rfl := rdp_nil h
  rw [dKey.rdv.1 h1]
  exact ofIs (reftext_any k w) fun w' => Rdv_v.2 ⟨rfl, rfl⟩
theorem a_refvtext (k : Vl) : AFn Try.prog 44 [k.av] (strA (bytesOf k.txt)) := fun U w vs h => by
  obtain ⟨v1, us, rfl, h1, h⟩ := rdp_one h
  obtain rfl := rdp_nil h
  rw [dVl.rdv.1 h1]
  exact ofIs (refvtext_any k w) fun w' => Rdv_v.2 ⟨rfl, rfl⟩
section
variable {E : Env} {nt : Nat} {ops : Array Oper} {T : Nat → Option AV} {H : Hp} {d : Option Nat} {ty : TypeId} {pos : String} {af : Array Edge} {gd : Option (Nat × Bool)}
theorem o_catn {t t' : TypeId} {x y : Operand} {a b : ByteArray} (hd : dOk nt d = true) (hx : evalO T x = some (.v (.string a))) (hy : evalO T y = some (.v (.string b))) (hb : Nat.ble b.size 1000 = true) (ha : a.size ≤ 1000000) : OpOK Try.prog E nt ops ⟨d, .binOp .add t x y t', ty, pos, af, gd⟩ T H [] ⟨.v (.string (a ++ b)), []⟩ :=
  ok_bin hd hx hy (fun w => by
    have hb' := Nat.le_of_ble_eq_true hb
    have h' : ¬ ((a.size + b.size : Nat) : Int) > 9223372036854775807 := by omega
    have hm : IntKind.i64.max = 9223372036854775807 := by decide
    simp only [eqGuard, binOp, Op.stringOp, Sem.run_bind, hm, if_neg h']
    rfl) rfl
end
def nine : ByteArray := { data := #[49, 50, 51, 52, 53, 54, 55, 56, 57] }
def seventeen : ByteArray := { data := #[115, 101, 118, 101, 110, 116, 101, 101, 110, 32, 98, 121, 116, 101, 115, 32, 46, 46] }
/-- an operation by a number -/
def lawOp (v : Int) : Opn :=
  let k := v % 1099511627776
  ⟨1 + k % 4, if k / 8 % 64 = 7 then bytesOf (lawKey (k / 4)).txt ++ nine else bytesOf (lawKey (k / 4)).txt,
   if k % 4 = 0 then (if k / 8 % 64 = 9 then bytesOf (lawVl (k / 64)).txt ++ seventeen else bytesOf (lawVl (k / 64)).txt) else .empty,
   if k % 4 = 2 then BitVec.ofInt 64 (k / 4096) * 4099#64 else 0#64⟩
theorem Vl.txt_length (k : Vl) : k.txt.length ≤ 16 := by
  cases h : k.ok
  · rw [Vl.txt_no h]; simp
  · rw [Vl.txt_ok h]; unfold cut; simp; omega
theorem wR {Q R : Prop} (k : R) (h : Hid R → Q := by intro kHid; (repeat (first | (first | refine Wend _ ?_ | refine AW_seq ?_ | refine AW_reg ?_ | refine AW_drw mixed ?_ | refine AW_block ?_ | refine AW_scope ?_ | refine thenA_n ?_ | refine blockA_n ?_ | refine blockA_h ?_ | refine scopeA_n ?_ | refine thenA_r ?_ | refine blockA_r ?_ | refine scopeA_r ?_ | refine thenA_e ?_ | refine scopeA_e ?_ | refine blockA_e rfl ?_ | refine AW_exit ?_ | refine AW_ret ?_ | refine AW_skip ?_ | refine AW_c rfl ?_ | with_reducible refine cb_t ?_ | with_reducible refine cb_f ?_ | with_reducible refine cb_yes (by first | assumption | omega) ?_ | with_reducible refine cb_no (by first | assumption | omega) ?_ | refine And.intro (by decide +kernel) ?_) | (first | (apply Wv; (focus (first | exact step_ok rfl rfl | exact o_idx rfl rfl rfl rfl (by first | assumption | omega | decide) | exact o_idx3 rfl rfl rfl rfl (by first | assumption | omega | decide) | exact o_idx2 rfl rfl rfl rfl rfl (by first | assumption | omega | decide) | exact o_idxr rfl rfl rfl rfl rfl rfl | exact o_lenm rfl rfl rfl | exact o_len rfl rfl rfl | exact o_len0 rfl rfl rfl | exact o_lens rfl rfl rfl | exact o_lent rfl rfl | exact o_add1 rfl rfl rfl (by omega) | exact o_addn rfl rfl rfl (by omega) | exact o_add rfl rfl rfl (by omega) | exact o_sub1 rfl rfl rfl (by omega) | exact o_sub rfl rfl rfl (by omega) | exact o_mul rfl rfl rfl (by omega) | exact o_rem rfl rfl rfl (by omega) | exact ok_rem rfl rfl rfl (by decide) rfl | exact o_eqKey rfl rfl rfl | exact o_neKey rfl rfl rfl | exact o_eqVl rfl rfl rfl | exact o_neVl rfl rfl rfl | exact o_eqEnt rfl rfl rfl | exact o_neEnt rfl rfl rfl | exact o_eqMsg rfl rfl rfl | exact o_neMsg rfl rfl rfl | exact o_acall rfl rfl rfl rfl (by assumption) | exact o_minn rfl rfl rfl | exact o_cutl rfl rfl rfl rfl (by omega) | exact o_cuth rfl rfl rfl rfl (by omega) | exact o_cutl3 rfl rfl rfl rfl (by omega) | exact o_cuth3 rfl rfl rfl rfl (by omega) | exact o_cutl2 rfl rfl rfl rfl rfl (by omega) | exact o_cuth2 rfl rfl rfl rfl rfl (by omega) | exact o_cutlh2 rfl rfl rfl rfl rfl rfl rfl (by omega) (by omega) | exact o_bld zero_Opn rfl rfl rfl rfl rfl rfl rfl | exact o_bld zero_Ans rfl rfl rfl rfl rfl rfl rfl | exact o_eqAns rfl rfl rfl | exact o_neAns rfl rfl rfl | exact o_catn rfl rfl rfl rfl (by omega) | exact e_bld rfl rfl rfl | exact e_bldk rfl rfl | exact z_bld0 rfl rfl rfl rfl rfl | exact z_bld rfl rfl rfl rfl rfl rfl rfl | exact o_addu rfl rfl rfl | exact o_mulu rfl rfl rfl (by decide) | exact o_convb ⟨_, Try.underlying3⟩ Try.underlying5 rfl rfl | exact o_convu ⟨_, Try.underlying3⟩ Try.underlying36 rfl rfl | exact o_convs Try.underlying33 Try.underlying5 Try.underlying9 rfl rfl | exact o_idxs rfl rfl rfl rfl (by first | assumption | omega) | exact z_blda rfl rfl rfl rfl rfl rfl rfl rfl rfl | exact o_idxa rfl rfl rfl rfl rfl rfl | exact o_idxra rfl rfl rfl rfl rfl rfl rfl | exact o_quo2 rfl rfl rfl (by omega) | exact o_quo rfl rfl rfl (by omega))); (focus (first | exact want_n | exact want_g rfl (by with_reducible rfl)))) | (apply Wb; (focus (first | exact o_box rfl rfl rfl rfl | exact o_app rfl rfl rfl rfl rfl (by first | exact o_many rfl | exact o_one _ _ rfl) (by first | omega | (simp; omega) | simp) (by first | omega | (simp; omega) | simp) | exact o_appn rfl rfl rfl rfl rfl (by first | exact o_many rfl | exact o_one _ _ rfl) (by first | omega | (simp; omega) | simp) (by first | omega | (simp; omega) | simp) | exact o_app1 rfl rfl rfl rfl rfl (by first | exact o_many rfl | exact o_one _ _ rfl) (by exact rfl) (by first | omega | (simp; omega) | simp) (by first | omega | (simp; omega) | simp) | exact o_app0 rfl rfl rfl rfl rfl (by first | exact o_many rfl | exact o_one _ _ rfl) (by first | omega | (simp; omega) | simp) (by first | omega | (simp; omega) | simp) | exact o_bsl0 rfl rfl rfl | exact z_bsll rfl rfl rfl rfl rfl rfl rfl rfl rfl | exact z_alloc rfl rfl rfl | exact o_alloc zero_Opn rfl rfl | exact o_alloc zero_Ans rfl rfl | exact o_bsll zero_Ans rfl rfl rfl rfl rfl rfl rfl | exact o_bsll zero_Opn rfl rfl rfl rfl rfl rfl rfl rfl)); (focus (first | exact want_n | exact want_g rfl (by with_reducible rfl)))) | (apply Ws; (focus (exact ok_store tabT (d := none) rfl rfl rfl rfl rfl rfl rfl rfl rfl rfl)); (focus (first | exact want_n | exact want_g rfl (by with_reducible rfl)))) | (refine Wskip (by first | exact want_f rfl (by with_reducible exact b_nt) | exact want_f rfl (by with_reducible exact b_nf) | exact want_t rfl) rfl ?_) | refine Wgt rfl rfl (by first | assumption | omega | exact rfl) ?_ | refine Wgf rfl rfl (by first | assumption | omega | exact rfl) ?_ | (refine Wgb rfl rfl (by with_reducible assumption) ?_) | (refine cb_is _ (by assumption) ?_)))); exact kHid.out) : Q := h ⟨k⟩
attribute [local irreducible] OpOK AWops AW CondB Go2 AFn thenA inBlockA noGotoA orderOk wantedA
set_option maxRecDepth 100000 in
set_option maxHeartbeats 4000000 in
theorem a_lop (v : Int) (hv : -9223372036854775808 ≤ v ∧ v ≤ 9223372036854775807) : AFn Try.prog 26 [intA v] (lawOp v).av := by
  refine AFn_intro Try.func26 rfl Try.ntmps26 rfl (by simp) [_] rfl fun E hE => ?_
  have h0 := Int.emod_nonneg v (show (1099511627776 : Int) ≠ 0 by omega)
  have h1 := Int.emod_lt_of_pos v (show (0 : Int) < 1099511627776 by omega)
  have c1 := a_lplace v 1099511627776 (by omega) (by omega) hv
  unfold lawOp
  dsimp only
  generalize v % 1099511627776 = k at h0 h1 c1 ⊢
  have d1 := acall Try.func17 (c1) (by decide +kernel) (by decide +kernel)
  have d3 := acall Try.func43 (a_lkey (k / 4) (by omega)) (by decide +kernel) (by decide +kernel)
  have d4 := acall Try.func21 (a_lval (k / 64) (by omega)) (by decide +kernel) (by decide +kernel)
  have d5 := acall Try.func42 (a_reftext (lawKey (k / 4))) (by decide +kernel) (by decide +kernel)
  have d6 := acall Try.func44 (a_refvtext (lawVl (k / 64))) (by decide +kernel) (by decide +kernel)
  have z1 := bytesOf_size (lawKey (k / 4)).txt
  have z2 := Key.txt_length (lawKey (k / 4))
  have z3 := bytesOf_size (lawVl (k / 64)).txt
  have z4 := Vl.txt_length (lawVl (k / 64))
  have z5 : nine.size = 9 := rfl
  have z6 : seventeen.size = 18 := rfl
  by_cases q0 : k % 4 = 0
  · have e1 : 1 + k % 4 = 1 := by omega
    have e3 : ¬ 1 + k % 4 = 3 := by omega
    rw [if_pos q0, if_neg (show ¬ k % 4 = 2 by omega)]
    by_cases q7 : k / 8 % 64 = 7
    · have q9 : ¬ k / 8 % 64 = 9 := by omega
      rw [if_pos q7, if_neg q9]
      refine wR ?_
      exact fin ⟨res_var rfl rfl rfl rfl, trivial⟩
    · rw [if_neg q7]
      by_cases q9 : k / 8 % 64 = 9
      · rw [if_pos q9]
        refine wR ?_
        exact fin ⟨res_var rfl rfl rfl rfl, trivial⟩
      · rw [if_neg q9]
        refine wR ?_
        exact fin ⟨res_var rfl rfl rfl rfl, trivial⟩
  have e1 : ¬ 1 + k % 4 = 1 := by omega
  rw [if_neg q0]
  by_cases q2 : k % 4 = 2
  · have e3 : 1 + k % 4 = 3 := by omega
    rw [if_pos q2]
    by_cases q7 : k / 8 % 64 = 7
    · have q9 : ¬ k / 8 % 64 = 9 := by omega
      rw [if_pos q7]
      refine wR ?_
      exact fin ⟨res_var rfl rfl rfl rfl, trivial⟩
    · rw [if_neg q7]
      by_cases q9 : k / 8 % 64 = 9
      · refine wR ?_
        exact fin ⟨res_var rfl rfl rfl rfl, trivial⟩
      · refine wR ?_
        exact fin ⟨res_var rfl rfl rfl rfl, trivial⟩
  have e3 : ¬ 1 + k % 4 = 3 := by omega
  rw [if_neg q2]
  by_cases q7 : k / 8 % 64 = 7
  · have q9 : ¬ k / 8 % 64 = 9 := by omega
    rw [if_pos q7]
    refine wR ?_
    exact fin ⟨res_var rfl rfl rfl rfl, trivial⟩
  rw [if_neg q7]
  by_cases q9 : k / 8 % 64 = 9
  · refine wR ?_
    exact fin ⟨res_var rfl rfl rfl rfl, trivial⟩
  · refine wR ?_
    exact fin ⟨res_var rfl rfl rfl rfl, trivial⟩
end Go.Proofs.Ytphojngdgmnpaaa

namespace Go.Proofs.Ytphojngdgmnpaaa
open Go Go.RowKit
set_option linter.unusedVariables false
set_option linter.unusedSimpArgs false
set_option maxRecDepth 100000

attribute [local irreducible] OpOK AWops AW CondB Go2 AFn thenA inBlockA noGotoA orderOk wantedA
end Go.Proofs.Ytphojngdgmnpaaa

namespace Go.Proofs.Ytphojngdgmnpaaa
open Go Go.RowKit
set_option linter.unusedVariables false
set_option linter.unusedSimpArgs false
set_option maxRecDepth 100000

def insKids (ks : List Int) (i : Nat) (id : Int) : List Int := ks.take (i + 1) ++ ([id] ++ ks.drop (i + 1))
def insCuts (cs : List Key) (at_ : Nat) (x : Key) : List Key := cs.take at_ ++ ([x] ++ cs.drop at_)
def fanIns (ks : List Int) (cs : List Key) (i : Int) (x : Key) (id : Int) : List Int × List Key :=
  if 0 ≤ i ∧ i < ks.length then (insKids ks i.toNat id, insCuts cs (min i.toNat cs.length) x) else (ks, cs)
attribute [local irreducible] OpOK AWops AW CondB Go2 AFn thenA inBlockA noGotoA orderOk wantedA
def fanHal (ks : List Int) (cs : List Key) : List Int × List Key × Key × List Int × List Key × Bool :=
  if ks.length = 4 ∧ cs.length = 3 then (ks.take 2, cs.take 1, cs.getD 1 Key.zero, ks.drop 2, cs.drop 2, true) else ([], [], Key.zero, [], [], false)
def fanHalA (h : List Int × List Key × Key × List Int × List Key × Bool) : AV := .tup [intsA h.1, keysA h.2.1, h.2.2.1.av, intsA h.2.2.2.1, keysA h.2.2.2.2.1, boolA h.2.2.2.2.2]
end Go.Proofs.Ytphojngdgmnpaaa

namespace Go.Proofs.Ytphojngdgmnpaaa
open Go Go.RowKit
set_option linter.unusedVariables false
set_option linter.unusedSimpArgs false
set_option maxRecDepth 100000

/-- the first j kids, with one more behind place i -/
def insK (ks : List Int) (i id : Int) (j : Nat) : List Int := if 0 ≤ i ∧ i < j then ks.take (i.toNat + 1) ++ ([id] ++ (ks.take j).drop (i.toNat + 1)) else ks.take j
/-- the first j pivots, with one more ahead of place i -/
def insC (cs : List Key) (m : Nat) (i : Int) (x : Key) (j : Nat) : List Key := if 0 ≤ i ∧ i < m ∧ i < j then cs.take i.toNat ++ ([x] ++ (cs.take j).drop i.toNat) else cs.take j
/-- the first places at which two rows are alike -/
theorem same_step {α : Type} [DecidableEq α] (a b : List α) (j : Nat) (h : j < a.length) (h' : j < b.length) (e : a[j] = b[j]) (k : a.take j = b.take j) : a.take (j + 1) = b.take (j + 1) := by
  rw [List.take_succ_eq_append_getElem h, List.take_succ_eq_append_getElem h', e, k]
theorem same_no {α : Type} [DecidableEq α] (a b : List α) (j : Nat) (h : j < a.length) (h' : j < b.length) (e : a[j] ≠ b[j]) : decide (a = b) = false := decide_eq_false fun k => e (by subst k; rfl)
attribute [local irreducible] OpOK AWops AW CondB Go2 AFn thenA inBlockA noGotoA orderOk wantedA
end Go.Proofs.Ytphojngdgmnpaaa

namespace Go.Proofs.Ytphojngdgmnpaaa
open Go Go.RowKit
set_option linter.unusedVariables false
set_option linter.unusedSimpArgs false
set_option maxRecDepth 100000

def lawRowsF (l : List Int) (j : Nat) : List Opn := (l.take j).map lawOp
def lawRows (l : List Int) : List Opn := lawRowsF l 100
attribute [local irreducible] OpOK AWops AW CondB Go2 AFn thenA inBlockA noGotoA orderOk wantedA
set_option maxRecDepth 100000 in
set_option maxHeartbeats 4000000 in
theorem m_sameEnts (a b : List Ent) (h1 : a.length ≤ 1000000000) : AFn Try.prog 60 [entsA a, entsA b] (boolA (decide (a = b))) := by
  refine AFn_intro Try.func60 rfl Try.ntmps60 rfl (by simp) [_] rfl fun E hE => ?_
  by_cases hl : a.length = b.length
  · refine wL ?_
    refine AW_loopI (fun j : Nat => ⟨[(0, entsA a), (1, entsA b), (5, intA j)], []⟩) (fun j => j ≤ a.length ∧ a.take j = b.take j) (fun j => a.length - j) 0 ⟨Nat.zero_le _, rfl⟩ (by (refine Go2.sub ⟨?_, ?_, ?_⟩ <;> repeat' (first | exact True.intro | rfl | apply And.intro))) (fun j hj => ?_)
    obtain ⟨hj, hJ⟩ := hj
    by_cases hlt : j < a.length
    · have hlt' : j < b.length := by omega
      by_cases h : a[j] = b[j]
      · have h' : ¬ a[j] ≠ b[j] := fun k => k h
        refine wL ?_
        refine ⟨j + 1, ⟨hlt, same_step a b j hlt hlt' h hJ⟩, by omega, ?_⟩
        (refine Go2.sub ⟨?_, ?_, ?_⟩ <;> repeat' (first | exact True.intro | rfl | apply And.intro))
      · have h' : a[j] ≠ b[j] := h
        rw [same_no a b j hlt hlt' h]
        refine wL ?_
        exact fin ⟨res_of rfl rfl rfl, trivial⟩
    · have : j = a.length := by omega
      subst this
      rw [List.take_length, hl, List.take_length] at hJ
      rw [decide_eq_true hJ]
      refine wL ?_
      exact fin ⟨res_of rfl rfl rfl, trivial⟩
  · rw [show decide (a = b) = false from decide_eq_false fun k => hl (by rw [k])]
    refine wL ?_
    exact fin ⟨res_of rfl rfl rfl, trivial⟩
end Go.Proofs.Ytphojngdgmnpaaa

namespace Go.Proofs.Ytphojngdgmnpaaa
open Go Go.RowKit
set_option linter.unusedVariables false
set_option linter.unusedSimpArgs false
set_option maxRecDepth 100000

def before (c d : Cal) : Bool := decide (0 ≤ c.to) && decide (c.to < d.frm)
def doC (m : List Ent) (c : Cal) : List Ent × Bool :=
  if c.to < 0 then ((mdDo m c.op).1, true) else if c.ans.code = 3 then (m, true) else if c.ans.code = 2 then (m, large c.op) else ((mdDo m c.op).1, decide ((mdDo m c.op).2 = c.ans))
def atC (l : List Cal) (i : Nat) : Cal := l.getD i Cal.zero
theorem atC_get {l : List Cal} {i : Nat} (h : i < l.length) : l[i] = atC l i := by unfold atC; rw [List.getD_eq_getElem?_getD, List.getElem?_eq_getElem h]; rfl
/-- is call k, if it must be, ahead of call i? -/
def rdyAt (l : List Cal) (i : Nat) (d : Nat → Bool) (k : Nat) : Bool := decide (k = i) || !before (atC l k) (atC l i) || d k
def rdy (l : List Cal) (i : Nat) (d : Nat → Bool) : Bool := (List.range l.length).all (rdyAt l i d)
def whlAt (l : List Cal) (d : Nat → Bool) (k : Nat) : Bool := decide ((atC l k).to < 0) || d k
def whl (l : List Cal) (d : Nat → Bool) : Bool := (List.range l.length).all (whlAt l d)
theorem all_upto {p : Nat → Bool} {n : Nat} (h : ∀ k, k < n → p k = true) : (List.range n).all p = true := by
  rw [List.all_eq_true]; intro k hk; exact h k (List.mem_range.1 hk)
theorem all_not {p : Nat → Bool} {n k : Nat} (hk : k < n) (h : p k = false) : (List.range n).all p = false := by
  cases e : (List.range n).all p with
  | false => rfl
  | true => rw [List.all_eq_true] at e; rw [e k (List.mem_range.2 hk)] at h; cases h
theorem wW {Q R : Prop} (k : R) (h : Hid R → Q := by intro kHid; (repeat (first | (first | refine Wend _ ?_ | refine AW_seq ?_ | refine AW_reg ?_ | refine AW_drw mixed ?_ | refine AW_block ?_ | refine AW_scope ?_ | refine thenA_n ?_ | refine blockA_n ?_ | refine blockA_h ?_ | refine scopeA_n ?_ | refine thenA_r ?_ | refine blockA_r ?_ | refine scopeA_r ?_ | refine thenA_e ?_ | refine scopeA_e ?_ | refine blockA_e rfl ?_ | refine AW_exit ?_ | refine AW_ret ?_ | refine AW_skip ?_ | refine AW_c rfl ?_ | with_reducible refine cb_t ?_ | with_reducible refine cb_f ?_ | with_reducible refine cb_yes (by first | assumption | omega) ?_ | with_reducible refine cb_no (by first | assumption | omega) ?_ | refine And.intro (by decide +kernel) ?_) | (first | (apply Wv; (focus (first | exact step_ok rfl rfl | exact o_idx rfl rfl rfl rfl (by first | assumption | omega | decide) | exact o_idx3 rfl rfl rfl rfl (by first | assumption | omega | decide) | exact o_idx2 rfl rfl rfl rfl rfl (by first | assumption | omega | decide) | exact o_idxr rfl rfl rfl rfl rfl rfl | exact o_lenm rfl rfl rfl | exact o_len rfl rfl rfl | exact o_len0 rfl rfl rfl | exact o_lens rfl rfl rfl | exact o_lent rfl rfl | exact o_add1 rfl rfl rfl (by omega) | exact o_addn rfl rfl rfl (by omega) | exact o_add rfl rfl rfl (by omega) | exact o_sub1 rfl rfl rfl (by omega) | exact o_sub rfl rfl rfl (by omega) | exact o_mul rfl rfl rfl (by omega) | exact o_rem rfl rfl rfl (by omega) | exact ok_rem rfl rfl rfl (by decide) rfl | exact o_eqKey rfl rfl rfl | exact o_neKey rfl rfl rfl | exact o_eqVl rfl rfl rfl | exact o_neVl rfl rfl rfl | exact o_eqEnt rfl rfl rfl | exact o_neEnt rfl rfl rfl | exact o_eqMsg rfl rfl rfl | exact o_neMsg rfl rfl rfl | exact o_acall rfl rfl rfl rfl (by assumption) | exact o_minn rfl rfl rfl | exact o_cutl rfl rfl rfl rfl (by omega) | exact o_cuth rfl rfl rfl rfl (by omega) | exact o_cutl3 rfl rfl rfl rfl (by omega) | exact o_cuth3 rfl rfl rfl rfl (by omega) | exact o_cutl2 rfl rfl rfl rfl rfl (by omega) | exact o_cuth2 rfl rfl rfl rfl rfl (by omega) | exact o_cutlh2 rfl rfl rfl rfl rfl rfl rfl (by omega) (by omega) | exact o_bld zero_Opn rfl rfl rfl rfl rfl rfl rfl | exact o_bld zero_Cal rfl rfl rfl rfl rfl rfl rfl | exact o_mkfn rfl rfl rfl | exact o_callv rfl rfl rfl rfl rfl rfl (by assumption) | exact o_bld zero_Ans rfl rfl rfl rfl rfl rfl rfl | exact o_eqAns rfl rfl rfl | exact o_neAns rfl rfl rfl | exact e_bld rfl rfl rfl | exact e_bldk rfl rfl | exact z_bld0 rfl rfl rfl rfl rfl | exact z_bld rfl rfl rfl rfl rfl rfl rfl | exact o_addu rfl rfl rfl | exact z_blda rfl rfl rfl rfl rfl rfl rfl rfl rfl | exact o_idxa rfl rfl rfl rfl rfl rfl | exact o_idxra rfl rfl rfl rfl rfl rfl rfl | exact o_quo2 rfl rfl rfl (by omega) | exact o_quo rfl rfl rfl (by omega))); (focus (first | exact want_n | exact want_g rfl (by with_reducible rfl)))) | (apply Wb; (focus (first | exact o_box rfl rfl rfl rfl | exact o_app rfl rfl rfl rfl rfl (by first | exact o_many rfl | exact o_one _ _ rfl) (by first | omega | (simp; omega) | simp) (by first | omega | (simp; omega) | simp) | exact o_appn rfl rfl rfl rfl rfl (by first | exact o_many rfl | exact o_one _ _ rfl) (by first | omega | (simp; omega) | simp) (by first | omega | (simp; omega) | simp) | exact o_app1 rfl rfl rfl rfl rfl (by first | exact o_many rfl | exact o_one _ _ rfl) (by exact rfl) (by first | omega | (simp; omega) | simp) (by first | omega | (simp; omega) | simp) | exact o_app0 rfl rfl rfl rfl rfl (by first | exact o_many rfl | exact o_one _ _ rfl) (by first | omega | (simp; omega) | simp) (by first | omega | (simp; omega) | simp) | exact o_bsl0 rfl rfl rfl | exact z_bsll rfl rfl rfl rfl rfl rfl rfl rfl rfl | exact z_alloc rfl rfl rfl | exact o_alloc zero_Opn rfl rfl | exact o_alloc zero_Cal rfl rfl | exact o_alloc zero_Ans rfl rfl | exact o_bsll zero_Ans rfl rfl rfl rfl rfl rfl rfl rfl | exact o_bsll zero_Opn rfl rfl rfl rfl rfl rfl rfl rfl)); (focus (first | exact want_n | exact want_g rfl (by with_reducible rfl)))) | (apply Ws; (focus (exact ok_store tabT (d := none) rfl rfl rfl rfl rfl rfl rfl rfl rfl rfl)); (focus (first | exact want_n | exact want_g rfl (by with_reducible rfl)))) | (refine Wskip (by first | exact want_f rfl (by with_reducible exact b_nt) | exact want_f rfl (by with_reducible exact b_nf) | exact want_t rfl) rfl ?_) | refine Wgt rfl rfl (by first | assumption | omega | exact rfl) ?_ | refine Wgf rfl rfl (by first | assumption | omega | exact rfl) ?_ | (refine Wgb rfl rfl (by with_reducible assumption) ?_) | (refine cb_is _ (by assumption) ?_)))); exact kHid.out) : Q := h ⟨k⟩
attribute [local irreducible] OpOK AWops AW CondB Go2 AFn thenA inBlockA noGotoA orderOk wantedA
set_option maxRecDepth 100000 in
set_option maxHeartbeats 4000000 in
theorem a_before (c d : Cal) : AFn Try.prog 49 [c.av, d.av] (boolA (before c d)) := by
  obtain ⟨c1, c2, c3, c4, c5, c6⟩ := c
  obtain ⟨d1, d2, d3, d4, d5, d6⟩ := d
  unfold before
  dsimp only
  by_cases h : 0 ≤ c5
  · rw [decide_eq_true h, Bool.true_and]
    refine AFn_intro Try.func49 rfl Try.ntmps49 rfl (by simp) [_] rfl fun E hE => ?_; have hnt : (!true) = false := rfl; have hnf : (!false) = true := rfl
    refine wW ?_
    exact fin ⟨res_of rfl rfl rfl, trivial⟩
  · rw [decide_eq_false h, Bool.false_and]
    refine AFn_intro Try.func49 rfl Try.ntmps49 rfl (by simp) [_] rfl fun E hE => ?_; have hnt : (!true) = false := rfl; have hnf : (!false) = true := rfl
    refine wW ?_
    exact fin ⟨res_of rfl rfl rfl, trivial⟩
--GEN
set_option maxRecDepth 100000 in
set_option maxHeartbeats 4000000 in
theorem a_ready1 (l : List Cal) (hl : l.length ≤ 1000000000) (i : Nat) (hi : i < l.length) (d : Nat → Bool) (f : FuncId) (x : AV) (hin : ∀ k, k < l.length → ACall f [intA (k : Nat), .ref x] (boolA (d k))) :
    AFn Try.prog 32 [calsA l, intA (i : Nat), .fn (.func f) [] [.ref x]] (boolA (rdy l i d)) := by
  refine AFn_intro Try.func32 rfl Try.ntmps32 rfl (by simp) [_] rfl fun E hE => ?_; have hnt : (!true) = false := rfl; have hnf : (!false) = true := rfl
  refine wW ?_
  refine AW_loopI (fun j : Nat => ⟨[(0, calsA l), (1, intA (i : Nat)), (2, .fn (.func f) [] [.ref x]), (9, calsA l), (10, intA (l.length : Nat)), (11, intA (j : Nat))], []⟩) (fun j => j ≤ l.length ∧ ∀ k, k < j → rdyAt l i d k = true) (fun j => l.length - j) 0 ⟨Nat.zero_le _, fun k hk => absurd hk (Nat.not_lt_zero _)⟩ (by (refine Go2.sub ⟨?_, ?_, ?_⟩ <;> repeat' (first | exact True.intro | rfl | apply And.intro))) (fun j hj => ?_)
  obtain ⟨hj, ha⟩ := hj
  have hb : ∀ j, j < l.length → (rdyAt l i d j = true → ∀ k, k < j + 1 → (∀ k, k < j → rdyAt l i d k = true) → rdyAt l i d k = true) := fun j _ h k hk ha => by
    rcases Nat.lt_or_ge k j with h1 | h1
    · exact ha k h1
    · rw [show k = j by omega]; exact h
  by_cases c : j < l.length
  · have cb := a_before l[j] l[i]
    have ci := hin j c
    have e1 := atC_get c
    have e2 := atC_get hi
    by_cases h1 : j = i
    · have hr : rdyAt l i d j = true := by unfold rdyAt; rw [decide_eq_true h1]; rfl
      have g1 : ¬ ((j : Nat) : Int) ≠ (i : Nat) := by omega
      refine wW ?_
      refine ⟨j + 1, ⟨c, fun k hk => hb j c hr k hk ha⟩, by omega, ?_⟩
      (refine Go2.sub ⟨?_, ?_, ?_⟩ <;> repeat' (first | exact True.intro | rfl | apply And.intro))
    · have g1 : ((j : Nat) : Int) ≠ (i : Nat) := by omega
      cases hbf : before l[j] l[i]
      · rw [hbf] at cb
        have hr : rdyAt l i d j = true := by unfold rdyAt; rw [← e1, ← e2, hbf]; simp
        have cb1 := acall Try.func49 (cb) (by decide +kernel) (by decide +kernel)
        refine wW ?_
        refine ⟨j + 1, ⟨c, fun k hk => hb j c hr k hk ha⟩, by omega, ?_⟩
        (refine Go2.sub ⟨?_, ?_, ?_⟩ <;> repeat' (first | exact True.intro | rfl | apply And.intro))
      · rw [hbf] at cb
        cases hd : d j
        · rw [hd] at ci
          have hr : rdy l i d = false := by unfold rdy; refine all_not c ?_; unfold rdyAt; rw [← e1, ← e2, hbf, hd, decide_eq_false h1]; rfl
          rw [hr]
          have cb1 := acall Try.func49 (cb) (by decide +kernel) (by decide +kernel)
          refine wW ?_
          exact fin ⟨res_of rfl rfl rfl, trivial⟩
        · rw [hd] at ci
          have hr : rdyAt l i d j = true := by unfold rdyAt; rw [hd]; simp
          have cb1 := acall Try.func49 (cb) (by decide +kernel) (by decide +kernel)
          refine wW ?_
          refine ⟨j + 1, ⟨c, fun k hk => hb j c hr k hk ha⟩, by omega, ?_⟩
          (refine Go2.sub ⟨?_, ?_, ?_⟩ <;> repeat' (first | exact True.intro | rfl | apply And.intro))
  · have hr : rdy l i d = true := all_upto fun k hk => ha k (by omega)
    rw [hr]
    refine wW ?_
    exact fin ⟨res_of rfl rfl rfl, trivial⟩
set_option maxRecDepth 100000 in
set_option maxHeartbeats 4000000 in
theorem a_ready2 (l : List Cal) (hl : l.length ≤ 1000000000) (i : Nat) (hi : i < l.length) (d : Nat → Bool) (f : FuncId) (x y : AV) (hin : ∀ k, k < l.length → ACall f [intA (k : Nat), .ref x, .ref y] (boolA (d k))) :
    AFn Try.prog 32 [calsA l, intA (i : Nat), .fn (.func f) [] [.ref x, .ref y]] (boolA (rdy l i d)) := by
  refine AFn_intro Try.func32 rfl Try.ntmps32 rfl (by simp) [_] rfl fun E hE => ?_; have hnt : (!true) = false := rfl; have hnf : (!false) = true := rfl
  refine wW ?_
  refine AW_loopI (fun j : Nat => ⟨[(0, calsA l), (1, intA (i : Nat)), (2, .fn (.func f) [] [.ref x, .ref y]), (9, calsA l), (10, intA (l.length : Nat)), (11, intA (j : Nat))], []⟩) (fun j => j ≤ l.length ∧ ∀ k, k < j → rdyAt l i d k = true) (fun j => l.length - j) 0 ⟨Nat.zero_le _, fun k hk => absurd hk (Nat.not_lt_zero _)⟩ (by (refine Go2.sub ⟨?_, ?_, ?_⟩ <;> repeat' (first | exact True.intro | rfl | apply And.intro))) (fun j hj => ?_)
  obtain ⟨hj, ha⟩ := hj
  have hb : ∀ j, j < l.length → (rdyAt l i d j = true → ∀ k, k < j + 1 → (∀ k, k < j → rdyAt l i d k = true) → rdyAt l i d k = true) := fun j _ h k hk ha => by
    rcases Nat.lt_or_ge k j with h1 | h1
    · exact ha k h1
    · rw [show k = j by omega]; exact h
  by_cases c : j < l.length
  · have cb := a_before l[j] l[i]
    have ci := hin j c
    have e1 := atC_get c
    have e2 := atC_get hi
    by_cases h1 : j = i
    · have hr : rdyAt l i d j = true := by unfold rdyAt; rw [decide_eq_true h1]; rfl
      have g1 : ¬ ((j : Nat) : Int) ≠ (i : Nat) := by omega
      refine wW ?_
      refine ⟨j + 1, ⟨c, fun k hk => hb j c hr k hk ha⟩, by omega, ?_⟩
      (refine Go2.sub ⟨?_, ?_, ?_⟩ <;> repeat' (first | exact True.intro | rfl | apply And.intro))
    · have g1 : ((j : Nat) : Int) ≠ (i : Nat) := by omega
      cases hbf : before l[j] l[i]
      · rw [hbf] at cb
        have hr : rdyAt l i d j = true := by unfold rdyAt; rw [← e1, ← e2, hbf]; simp
        have cb1 := acall Try.func49 (cb) (by decide +kernel) (by decide +kernel)
        refine wW ?_
        refine ⟨j + 1, ⟨c, fun k hk => hb j c hr k hk ha⟩, by omega, ?_⟩
        (refine Go2.sub ⟨?_, ?_, ?_⟩ <;> repeat' (first | exact True.intro | rfl | apply And.intro))
      · rw [hbf] at cb
        cases hd : d j
        · rw [hd] at ci
          have hr : rdy l i d = false := by unfold rdy; refine all_not c ?_; unfold rdyAt; rw [← e1, ← e2, hbf, hd, decide_eq_false h1]; rfl
          rw [hr]
          have cb1 := acall Try.func49 (cb) (by decide +kernel) (by decide +kernel)
          refine wW ?_
          exact fin ⟨res_of rfl rfl rfl, trivial⟩
        · rw [hd] at ci
          have hr : rdyAt l i d j = true := by unfold rdyAt; rw [hd]; simp
          have cb1 := acall Try.func49 (cb) (by decide +kernel) (by decide +kernel)
          refine wW ?_
          refine ⟨j + 1, ⟨c, fun k hk => hb j c hr k hk ha⟩, by omega, ?_⟩
          (refine Go2.sub ⟨?_, ?_, ?_⟩ <;> repeat' (first | exact True.intro | rfl | apply And.intro))
  · have hr : rdy l i d = true := all_upto fun k hk => ha k (by omega)
    rw [hr]
    refine wW ?_
    exact fin ⟨res_of rfl rfl rfl, trivial⟩
set_option maxRecDepth 100000 in
set_option maxHeartbeats 4000000 in
theorem a_whole (l : List Cal) (hl : l.length ≤ 1000000000) (d : Nat → Bool) (f : FuncId) (x : AV) (hin : ∀ k, k < l.length → ACall f [intA (k : Nat), .ref x] (boolA (d k))) :
    AFn Try.prog 34 [calsA l, .fn (.func f) [] [.ref x]] (boolA (whl l d)) := by
  refine AFn_intro Try.func34 rfl Try.ntmps34 rfl (by simp) [_] rfl fun E hE => ?_; have hnt : (!true) = false := rfl; have hnf : (!false) = true := rfl
  refine wW ?_
  refine AW_loopI (fun j : Nat => ⟨[(1, .fn (.func f) [] [.ref x]), (7, calsA l), (8, intA (l.length : Nat)), (9, intA (j : Nat))], []⟩) (fun j => j ≤ l.length ∧ ∀ k, k < j → whlAt l d k = true) (fun j => l.length - j) 0 ⟨Nat.zero_le _, fun k hk => absurd hk (Nat.not_lt_zero _)⟩ (by (refine Go2.sub ⟨?_, ?_, ?_⟩ <;> repeat' (first | exact True.intro | rfl | apply And.intro))) (fun j hj => ?_)
  obtain ⟨hj, ha⟩ := hj
  have hb : ∀ j, j < l.length → (whlAt l d j = true → ∀ k, k < j + 1 → (∀ k, k < j → whlAt l d k = true) → whlAt l d k = true) := fun j _ h k hk ha => by
    rcases Nat.lt_or_ge k j with h1 | h1
    · exact ha k h1
    · rw [show k = j by omega]; exact h
  by_cases c : j < l.length
  · have ci := hin j c
    have e1 := atC_get c
    by_cases h1 : 0 ≤ l[j].to
    · cases hd : d j
      · rw [hd] at ci
        have hr : whl l d = false := by unfold whl; refine all_not c ?_; unfold whlAt; rw [← e1, hd, decide_eq_false (by omega)]; rfl
        rw [hr]
        refine wW ?_
        exact fin ⟨res_of rfl rfl rfl, trivial⟩
      · rw [hd] at ci
        have hr : whlAt l d j = true := by unfold whlAt; rw [hd]; simp
        refine wW ?_
        refine ⟨j + 1, ⟨c, fun k hk => hb j c hr k hk ha⟩, by omega, ?_⟩
        (refine Go2.sub ⟨?_, ?_, ?_⟩ <;> repeat' (first | exact True.intro | rfl | apply And.intro))
    · have hr : whlAt l d j = true := by unfold whlAt; rw [← e1, decide_eq_true (by omega)]; rfl
      refine wW ?_
      refine ⟨j + 1, ⟨c, fun k hk => hb j c hr k hk ha⟩, by omega, ?_⟩
      (refine Go2.sub ⟨?_, ?_, ?_⟩ <;> repeat' (first | exact True.intro | rfl | apply And.intro))
  · have hr : whl l d = true := all_upto fun k hk => ha k (by omega)
    rw [hr]
    refine wW ?_
    exact fin ⟨res_of rfl rfl rfl, trivial⟩
set_option maxRecDepth 100000 in
set_option maxHeartbeats 4000000 in
theorem a_do (m : List Ent) (c : Cal) (h : Lf m) (hl : m.length ≤ 1000000000) : AFn Try.prog 33 [entsA m, c.av] (.tup [entsA (doC m c).1, boolA (doC m c).2]) := by
  obtain ⟨c1, c2, o, c4, c5, a⟩ := c
  have cm := a_mdo m o h hl
  have cl := a_histlarge o
  unfold doC
  dsimp only
  generalize hM : mdDo m o = R at *
  obtain ⟨m2, a2⟩ := R
  dsimp only at cm ⊢
  by_cases h1 : c5 < 0
  · rw [if_pos h1]
    refine AFn_intro Try.func33 rfl Try.ntmps33 rfl (by simp) [_, _] rfl fun E hE => ?_
    have d1 := acall Try.func50 (cm) (by decide +kernel) (by decide +kernel)
    have hnt : (!true) = false := rfl
    have hnf : (!false) = true := rfl
    refine wW ?_
    exact fin ⟨res_sl rfl, res_of rfl rfl rfl, trivial⟩
  rw [if_neg h1]
  obtain ⟨a0, af, av⟩ := a
  dsimp only at *
  by_cases h2 : a0 = 3
  · rw [if_pos h2]
    refine AFn_intro Try.func33 rfl Try.ntmps33 rfl (by simp) [_, _] rfl fun E hE => ?_
    have d1 := acall Try.func50 (cm) (by decide +kernel) (by decide +kernel)
    have hnt : (!true) = false := rfl
    have hnf : (!false) = true := rfl
    refine wW ?_
    exact fin ⟨res_sl rfl, res_of rfl rfl rfl, trivial⟩
  rw [if_neg h2]
  by_cases h3 : a0 = 2
  · rw [if_pos h3]
    refine AFn_intro Try.func33 rfl Try.ntmps33 rfl (by simp) [_, _] rfl fun E hE => ?_
    have d1 := acall Try.func50 (cm) (by decide +kernel) (by decide +kernel)
    have d2 := acall Try.func51 (cl) (by decide +kernel) (by decide +kernel)
    have hnt : (!true) = false := rfl
    have hnf : (!false) = true := rfl
    refine wW ?_
    exact fin ⟨res_sl rfl, res_of rfl rfl rfl, trivial⟩
  rw [if_neg h3]
  refine AFn_intro Try.func33 rfl Try.ntmps33 rfl (by simp) [_, _] rfl fun E hE => ?_
  have d1 := acall Try.func50 (cm) (by decide +kernel) (by decide +kernel)
  have hnt : (!true) = false := rfl
  have hnf : (!false) = true := rfl
  refine wW ?_
  exact fin ⟨res_sl rfl, res_of rfl rfl rfl, trivial⟩
set_option maxRecDepth 100000 in
set_option maxHeartbeats 4000000 in
theorem a_indexI (l : List Int) (x : Int) (hl : l.length ≤ 1000000000) : ∃ r : Int, (0 ≤ r ↔ x ∈ l) ∧ AFn Try.prog 48 [intsA l, intA x] (intA r) := by
  by_cases hm : x ∈ l
  · obtain ⟨k0, hk0, e0, hlt⟩ : ∃ k, ∃ h : k < l.length, l[k] = x ∧ ∀ j, j < k → l[j]? ≠ some x := by
      induction l with
      | nil => cases hm
      | cons y l ih =>
        by_cases c : y = x
        · exact ⟨0, by simp, c, fun j hj => absurd hj (Nat.not_lt_zero _)⟩
        · have hm' : x ∈ l := by simpa [Ne.symm c] using hm
          obtain ⟨k, h1, h2, h3⟩ := ih (by simp at hl; omega) hm'
          refine ⟨k + 1, by simp; omega, by simpa using h2, fun j hj => ?_⟩
          cases j with
          | zero => simpa using c
          | succ j => simpa using h3 j (by omega)
    refine ⟨(k0 : Nat), by simp [hm], ?_⟩
    refine AFn_intro Try.func48 rfl Try.ntmps48 rfl (by simp) [_] rfl fun E hE => ?_; have hnt : (!true) = false := rfl; have hnf : (!false) = true := rfl
    refine wW ?_
    refine AW_loopI (fun j : Nat => ⟨[(0, intsA l), (1, intA x), (6, intsA l), (7, intA (l.length : Nat)), (8, intA (j : Nat))], []⟩) (fun j => j ≤ k0) (fun j => l.length - j) 0 (Nat.zero_le _) (by (refine Go2.sub ⟨?_, ?_, ?_⟩ <;> repeat' (first | exact True.intro | rfl | apply And.intro))) (fun j hj => ?_)
    have c : j < l.length := by omega
    by_cases q : j = k0
    · subst q
      have g : x = l[j] := e0.symm
      refine wW ?_
      exact fin ⟨res_of rfl rfl rfl, trivial⟩
    · have g : ¬ x = l[j] := fun e => hlt j (by omega) (by rw [List.getElem?_eq_getElem c, e])
      refine wW ?_
      refine ⟨j + 1, by omega, by omega, ?_⟩
      (refine Go2.sub ⟨?_, ?_, ?_⟩ <;> repeat' (first | exact True.intro | rfl | apply And.intro))
  · refine ⟨-1, by simp [hm], ?_⟩
    refine AFn_intro Try.func48 rfl Try.ntmps48 rfl (by simp) [_] rfl fun E hE => ?_; have hnt : (!true) = false := rfl; have hnf : (!false) = true := rfl
    refine wW ?_
    refine AW_loopI (fun j : Nat => ⟨[(0, intsA l), (1, intA x), (6, intsA l), (7, intA (l.length : Nat)), (8, intA (j : Nat))], []⟩) (fun j => j ≤ l.length) (fun j => l.length - j) 0 (Nat.zero_le _) (by (refine Go2.sub ⟨?_, ?_, ?_⟩ <;> repeat' (first | exact True.intro | rfl | apply And.intro))) (fun j hj => ?_)
    by_cases c : j < l.length
    · have g : ¬ x = l[j] := fun e => hm (e ▸ List.getElem_mem c)
      refine wW ?_
      refine ⟨j + 1, by omega, by omega, ?_⟩
      (refine Go2.sub ⟨?_, ?_, ?_⟩ <;> repeat' (first | exact True.intro | rfl | apply And.intro))
    · refine wW ?_
      exact fin ⟨res_of rfl rfl rfl, trivial⟩
set_option maxRecDepth 100000 in
set_option maxHeartbeats 4000000 in
theorem a_contains (l : List Int) (x : Int) (hl : l.length ≤ 1000000000) : AFn Try.prog 31 [intsA l, intA x] (boolA (decide (x ∈ l))) := by
  obtain ⟨r, h1, h2⟩ := a_indexI l x hl
  have e : decide (x ∈ l) = decide (0 ≤ r) := by rw [decide_eq_decide]; exact h1.symm
  rw [e]
  refine AFn_intro Try.func31 rfl Try.ntmps31 rfl (by simp) [_] rfl fun E hE => ?_; have hnt : (!true) = false := rfl; have hnf : (!false) = true := rfl
  have d1 := acall Try.func48 (h2) (by decide +kernel) (by decide +kernel)
  refine wW ?_
  exact fin ⟨res_of rfl rfl rfl, trivial⟩
end Go.Proofs.Ytphojngdgmnpaaa

namespace Go.Proofs.Ytphojngdgmnpaaa
open Go Go.RowKit
set_option linter.unusedVariables false
set_option linter.unusedSimpArgs false
set_option maxRecDepth 100000
theorem eqnil_ints (w : World) (A : Option Addr) (n c n' c' : Nat) : (binOp .eql 22 (.slice A n c) (.slice none n' c')).run Try.prog w = .ok (.bool A.isNone) w := Lib.run_eql_slice_nil w _ _ A n c n' c' Try.underlying22
section
variable {E : Env} {nt : Nat} {ops : Array Oper} {T : Nat → Option AV} {H : Hp} {d : Option Nat} {ty : TypeId} {pos : String} {af : Array Edge} {gd : Option (Nat × Bool)}
/-- a slice of some elements is not nil -/
theorem ok_eqnil {t t' e : TypeId} {es bytes : Nat} {ea : Bool} {x y : Operand} {tok : Option Nat} {n : Nat} {xs : List AV} (hs : tabT.ti t = some (.sl e es bytes ea)) (hd : dOk nt d = true) (hx : evalO T x = some (.sl tok n xs)) (hy : evalO T y = some (.v (.slice none 0 0))) (h0 : 0 < xs.length) : OpOK Try.prog E nt ops ⟨d, .binOp .eql t x y t', ty, pos, af, gd⟩ T H [] ⟨boolA false, []⟩ :=
  ok_val hd fun B T' H' a w r ht hh => by
    have h := Rdv_one (by simp) (r.eval ((ht x (by simp [Op.operands])).trans hx)) rfl
    have h2 := r.evalv ((ht y (by simp [Op.operands])).trans hy)
    simp only [Rd] at h
    obtain ⟨A, cap, h1, k2, k3, k4, _⟩ := h
    injection h1 with h1
    obtain ⟨b, off, c, rfl, _⟩ := k4 h0
    have hu := (tabT.ok t _ hs).2.1
    refine ⟨.bool false, ?_, by rw [boolA, Rdv_v]; exact ⟨rfl, rfl⟩⟩
    have hr := Lib.run_eql_slice_nil (P := Try.prog) w t e (some ⟨b, off, none⟩) xs.length cap 0 0 hu
    simp [execOp, h1, h2, eqGuard, hr]
end
attribute [local irreducible] OpOK AWops AW CondB Go2 AFn thenA inBlockA noGotoA orderOk wantedA
end Go.Proofs.Ytphojngdgmnpaaa

namespace Go.Proofs.Ytphojngdgmnpaaa
open Go Go.RowKit
set_option linter.unusedVariables false
set_option linter.unusedSimpArgs false
set_option maxRecDepth 100000

/-! ### the map itself -/
section
variable {K : Type}
def mEnts (f : K → Value) : Nat → List K → List MapEntry
  | _, [] => []
  | i, k :: ks => ⟨f k, .bool true, i⟩ :: mEnts f (i + 1) ks
def mObj (f : K → Value) (ks : List K) : Obj := .map (mEnts f 0 ks).toArray ks.length
theorem mEnts_snoc (f : K → Value) (x : K) : ∀ (ks : List K) (i : Nat), mEnts f i (ks ++ [x]) = mEnts f i ks ++ [⟨f x, .bool true, i + ks.length⟩]
  | [], i => by simp [mEnts]
  | k :: ks, i => by
    simp only [List.cons_append, mEnts, mEnts_snoc f x ks (i + 1), List.length_cons]
    rw [show i + 1 + ks.length = i + (ks.length + 1) by omega]
theorem mEnts_mem {f : K → Value} {e : MapEntry} : ∀ {ks : List K} {i : Nat}, e ∈ mEnts f i ks → ∃ k ∈ ks, e.key = f k ∧ e.val = .bool true
  | [], i, h => by simp [mEnts] at h
  | k :: ks, i, h => by
    simp only [mEnts, List.mem_cons] at h
    rcases h with rfl | h
    · exact ⟨k, by simp, rfl, rfl⟩
    · obtain ⟨k', h1, h2⟩ := mEnts_mem h
      exact ⟨k', by simp [h1], h2⟩
theorem mEnts_has {f : K → Value} {k : K} : ∀ {ks : List K} {i : Nat}, k ∈ ks → ∃ e ∈ mEnts f i ks, e.key = f k
  | [], i, h => by cases h
  | k' :: ks, i, h => by
    simp only [List.mem_cons] at h
    rcases h with rfl | h
    · exact ⟨⟨f k, .bool true, i⟩, by simp only [mEnts, List.mem_cons, true_or], rfl⟩
    · obtain ⟨e, h1, h2⟩ := mEnts_has (i := i + 1) h
      exact ⟨e, by simp only [mEnts, List.mem_cons, h1, or_true], h2⟩
variable {P : Program} {kt et t : TypeId} {w : World} {b : Nat} {ks : List K} {x : K} {f : K → Value}
theorem set_find (law : WideMaps.KeyLaw P kt) (hinj : ∀ k ∈ ks, f k = f x → k = x) (hks : ∀ k ∈ ks, ∃ l, Go.keyOf P kt (f k) = some l) (hx : ∃ l, Go.keyOf P kt (f x) = some l) (w : World) :
    (x ∉ ks ∧ (Instr.findKey kt (f x) (mEnts f 0 ks)).run P w = .ok none w) ∨ (x ∈ ks ∧ ∃ i, (Instr.findKey kt (f x) (mEnts f 0 ks)).run P w = .ok (some (i, .bool true)) w) := by
  obtain ⟨lx, hx⟩ := hx
  rcases law.find w hx (mEnts f 0 ks) (fun e he => by obtain ⟨k, h1, h2, _⟩ := mEnts_mem he; rw [h2]; exact hks k h1) with ⟨h1, h2⟩ | ⟨j, e, h1, h2, h3⟩
  · refine .inl ⟨fun hm => ?_, h1⟩
    obtain ⟨e, h3, h4⟩ := mEnts_has (f := f) (i := 0) hm
    exact h2 e h3 h4
  · have hm := List.mem_of_getElem? h2
    obtain ⟨k, k1, k2, k3⟩ := mEnts_mem hm
    rw [k3] at h1
    have : k = x := hinj _ k1 (k2.symm.trans h3)
    subst this
    exact .inr ⟨k1, j, h1⟩
theorem run_setLook [DecidableEq K] (ht : P.underlying t = some (.map kt et)) (hz : ∀ w, (zeroValue et).run P w = .ok (.bool false) w) (law : WideMaps.KeyLaw P kt) (hinj : ∀ k ∈ ks, f k = f x → k = x) (hks : ∀ k ∈ ks, ∃ l, Go.keyOf P kt (f k) = some l) (hx : ∃ l, Go.keyOf P kt (f x) = some l) (hb : w.heap[b]? = some (mObj f ks)) :
    (Instr.lookup t (.map (some b)) (f x) false).run P w = .ok (.bool (decide (x ∈ ks))) w := by
  have hg : (getObj b).run P w = .ok (.map (mEnts f 0 ks).toArray ks.length) w := by simp [getObj, Sem.run, hb, mObj]
  obtain ⟨lx, hx'⟩ := hx
  have hc := fun em => law.check w em hx'
  unfold Instr.lookup
  simp only [Sem.run_bind, run_underlying ht, Result.andThen_ok, hg, Sem.run_pure, hc]
  rcases set_find law hinj hks ⟨lx, hx'⟩ w with ⟨h1, h2⟩ | ⟨h1, i, h2⟩
  · rw [h2, decide_eq_false h1]
    simp [hz]
  · rw [h2, decide_eq_true h1]
    simp
theorem run_setPut (ht : P.underlying t = some (.map kt et)) (law : WideMaps.KeyLaw P kt) (hinj : ∀ k ∈ ks, f k = f x → k = x) (hks : ∀ k ∈ ks, ∃ l, Go.keyOf P kt (f k) = some l) (hx : ∃ l, Go.keyOf P kt (f x) = some l) (hb : w.heap[b]? = some (mObj f ks)) (hn : x ∉ ks) :
    (Instr.mapUpdate t (.map (some b)) (f x) (.bool true)).run P w = .ok () { w with heap := w.heap.setIfInBounds b (mObj f (ks ++ [x])) } := by
  have hg : (getObj b).run P w = .ok (.map (mEnts f 0 ks).toArray ks.length) w := by simp [getObj, Sem.run, hb, mObj]
  have hs : (setObj b (mObj f (ks ++ [x]))).run P w = .ok () { w with heap := w.heap.setIfInBounds b (mObj f (ks ++ [x])) } := by simp [setObj, Sem.run, hb, mObj]
  obtain ⟨lx, hx'⟩ := hx
  have hc := fun em => law.check w em hx'
  unfold Instr.mapUpdate
  simp only [Sem.run_bind, run_underlying ht, Result.andThen_ok, hg, hc]
  rcases set_find law hinj hks ⟨lx, hx'⟩ w with ⟨h1, h2⟩ | ⟨h1, _⟩
  · rw [h2]
    have e : mObj f (ks ++ [x]) = .map ((mEnts f 0 ks).toArray.push ⟨f x, .bool true, ks.length⟩) (ks.length + 1) := by
      unfold mObj; rw [mEnts_snoc]; simp
    rw [e] at hs ⊢
    simpa using hs
  · exact absurd h1 hn
end
/-! ### the beginning put anew -/
def Env.put (E : Env) (b : Nat) (o : Obj) : Env := { E with w0 := { E.w0 with heap := E.w0.heap.setIfInBounds b o } }
theorem Env.put_size (E : Env) (b : Nat) (o : Obj) : (E.put b o).w0.heap.size = E.w0.heap.size := by simp [Env.put]
theorem Env.put_put (E : Env) (b : Nat) (o o' : Obj) : (E.put b o).put b o' = E.put b o' := by
  simp [Env.put]
theorem unst_put (E : Env) (b : Nat) (o : Obj) (B : Blk) (H : Hp) : unst (E.put b o) B H = unst E B H := by
  funext k q
  unfold unst
  rw [Env.put_size]; rfl
def isMapO : Obj → Bool
  | .map _ _ => true
  | _ => false
def World.putO (w : World) (b : Nat) (o : Obj) : World := { w with heap := w.heap.setIfInBounds b o }
section
variable {E : Env} {nt : Nat} {B : Blk} {T : Nat → Option AV} {H : Hp} {a : Act} {w : World} {b : Nat} {o o' : Obj}
theorem putO_cells {k : Nat} {cs : Array Value} {t : TypeId} {fr : Nat × Nat} (hm : w.heap[b]? = some o) (ho : isMapO o = true) (h : w.heap[k]? = some (.cells cs t fr)) : (World.putO w b o').heap[k]? = some (.cells cs t fr) := by
  have : b ≠ k := fun e => by subst e; rw [hm] at h; injection h with h; subst h; cases ho
  simp only [World.putO, Array.getElem?_setIfInBounds, if_neg this]; exact h
theorem evo_putO (U : Uns) (hm : w.heap[b]? = some o) (ho : isMapO o = true) : Evo U w (World.putO w b o') :=
  ⟨by simp [World.putO], fun k cs t fr h => ⟨cs, putO_cells hm ho h, rfl, fun _ _ => rfl⟩⟩
theorem pic_putO (hm : w.heap[b]? = some o) (ho : isMapO o = true) : Pic w (World.putO w b o') B B H H :=
  ⟨fun _ _ _ h => h, fun _ h => h, fun t n len A cap h => by
    obtain ⟨ty, k, h1, h2, h3⟩ := h
    refine ⟨ty, k, h1, h2, fun hk => ⟨(h3 hk).1, fun q hq => ?_⟩⟩
    obtain ⟨h4, cur, h5, h6⟩ := (h3 hk).2 q hq
    exact ⟨h4, cur, putO_cells hm ho h5, h6⟩, ownPic (evo_putO (fun _ _ => False) hm ho) (fun _ _ _ _ h => ⟨h, rfl⟩)⟩
/-- a map is written: the walk goes on as from a beginning where it was so -/
theorem Rel.putO (r : Rel E nt B T H a w) (hlt : b < E.w0.heap.size) (hn : ¬ E.ent b) (hm : w.heap[b]? = some o) (ho : isMapO o = true) (ho' : isMapO o' = true) : Rel (E.put b o') nt B T H a (World.putO w b o') := by
  have hev : ∀ U, Evo U w (World.putO w b o') := fun U => evo_putO U hm ho
  have hp : Pic w (World.putO w b o') B B H H := pic_putO hm ho
  have hU : ∀ k q, k < w.heap.size → unst E B H k q → unst E B H k q := fun _ _ _ h => h
  have hsz : w.heap[b]? = E.w0.heap[b]? := r.left.block b hlt hn
  refine ⟨r.nt, r.df, fun s x hs => ?_, fun g bx h => ?_, r.non, r.inj, ⟨r.left.os, r.left.tape, r.left.output, ?_, fun k hk he => ?_, ?_⟩, r.keep⟩
  · obtain ⟨v, h1, h2⟩ := r.tmp s x hs
    rw [unst_put]
    exact ⟨v, h1, Rdv_go (hev _) hU hp h2⟩
  · have hb := r.box g bx h
    have mine : ∀ q o0, Mine E q o0 → Mine (E.put b o') q o0 := fun q o0 h => by
      unfold Mine at h ⊢
      rw [Env.put_size]; exact h
    cases bx with
    | var x =>
      obtain ⟨q, cs, t, h1, h2, h3, h4, h5⟩ := hb
      exact ⟨q, cs, t, h1, putO_cells hm ho h2, by rw [unst_put]; exact Rd_go (hev _) hU x hp h3, mine _ _ h4, h5⟩
    | froz x =>
      obtain ⟨q, cs, h1, h2, h3, h4⟩ := hb
      refine ⟨q, cs, h1, (hev (unst E B H)).row h2 h3, by rw [unst_put]; exact h3, by rw [unst_put]; exact Rd_go (hev _) hU x hp h4⟩
    | tail e n k =>
      obtain ⟨h0, hT, h1⟩ := hb
      refine ⟨h0, hT, h1.imp id ?_⟩
      rintro ⟨q, cur, cap, k1, k2, k3, k4, k5, k6⟩
      exact ⟨q, cur, cap, k1, putO_cells hm ho k2, k3, k4, k5, mine _ _ k6⟩
    | own e n xs =>
      obtain ⟨h0, hT, h1⟩ := hb
      refine ⟨h0, hT, h1.imp id ?_⟩
      rintro ⟨q, cur, cap, c, k1, k2, k3, k4, k5, k6, k7, k8⟩
      exact ⟨q, cur, cap, c, k1, putO_cells hm ho k2, k3, k4, k5, k6, by rw [unst_put]; exact Rdu_go (hev _) hU n xs (Pic.refl0 _ _) k7, mine _ _ k8⟩
  · rw [Env.put_size]; simpa [World.putO] using r.left.size
  · rw [Env.put_size] at hk
    simp only [World.putO, Env.put, Array.getElem?_setIfInBounds]
    have hws := r.left.size
    by_cases c : b = k
    · subst c
      rw [if_pos rfl, if_pos rfl, if_pos (by omega), if_pos hlt]
    · rw [if_neg c, if_neg c]
      exact r.left.block k hk he
  · refine ⟨by rw [Env.put_size]; simpa [World.putO] using r.left.size, fun k cs t fr h => ?_⟩
    have hkb : b ≠ k := fun e => by
      subst e
      simp only [Env.put, Array.getElem?_setIfInBounds, if_pos rfl, if_pos hlt] at h
      injection h with h
      subst h; cases ho'
    have h' : E.w0.heap[k]? = some (.cells cs t fr) := by
      simp only [Env.put, Array.getElem?_setIfInBounds, if_neg hkb] at h; exact h
    obtain ⟨cs', h1, h2, h3⟩ := r.left.evo.cell k cs t fr h'
    exact ⟨cs', by simp only [World.putO, Array.getElem?_setIfInBounds, if_neg hkb]; exact h1, h2, h3⟩
end
/-! ### walks on whose way the map is written -/
def AWM (P : Program) (E : Env) (b nt : Nat) (c : Code) (o : Obj) (S : St) (Q : Exit → Obj → St → Prop) : Prop :=
  ∀ B a w, Rel (E.put b o) nt B S.t S.h a w → c.wp P (fun e a' w' => ∃ o' B' S', Rel (E.put b o') nt B' S'.t S'.h a' w' ∧ Q e o' S') a w
def thenM (K : Obj → St → Prop) (Q : Exit → Obj → St → Prop) : Exit → Obj → St → Prop
  | .normal, o, S => K o S
  | .outgrown, _, _ => False
  | e, o, S => Q e o S
def inBlockM (id : Nat) (Q : Exit → Obj → St → Prop) : Exit → Obj → St → Prop
  | .exit id', o, S => if id' = id then Q .normal o S else Q (.exit id') o S
  | e, o, S => Q e o S
def noGotoM (Q : Exit → Obj → St → Prop) : Exit → Obj → St → Prop
  | .goto _, _, _ => False
  | e, o, S => Q e o S
section
variable {P : Program} {E : Env} {b nt : Nat} {o : Obj} {S : St} {Q : Exit → Obj → St → Prop}
theorem AWM_of {c : Code} (h : AW P (E.put b o) nt c S (fun e S' => Q e o S')) : AWM P E b nt c o S Q := fun B a w r =>
  wp_mono (h B a w r) fun e a w ⟨B', S', h1, h2⟩ => ⟨o, B', S', h1, h2⟩
theorem AWM_seq {x y : Code} (h : AWM P E b nt x o S (thenM (fun o' S' => AWM P E b nt y o' S' Q) Q)) : AWM P E b nt (.seq x y) o S Q := fun B a w r =>
  wp_seq (wp_mono (h B a w r) fun e a w ⟨o', B', S', h1, h2⟩ => by
    cases e with
    | normal => exact h2 B' a w h1
    | outgrown => exact h2.elim
    | exit id => exact ⟨o', B', S', h1, h2⟩
    | goto l => exact ⟨o', B', S', h1, h2⟩
    | ret => exact ⟨o', B', S', h1, h2⟩
    | panic c => exact ⟨o', B', S', h1, h2⟩)
/-- the first part writes no map -/
theorem AWM_seqA {x y : Code} (h : AW P (E.put b o) nt x S (thenA (fun S' => AWM P E b nt y o S' Q) (fun e S' => Q e o S'))) : AWM P E b nt (.seq x y) o S Q :=
  AWM_seq (AWM_of (h.mono fun e S' hq => by cases e <;> exact hq))
theorem AWM_block {id : Nat} {c : Code} (h : AWM P E b nt c o S (inBlockM id Q)) : AWM P E b nt (.block id c) o S Q := fun B a w r =>
  wp_block (wp_mono (h B a w r) fun e a w ⟨o', B', S', h1, h2⟩ => by
    cases e with
    | exit id' =>
      simp only [inBlockM] at h2
      simp only [Exit.inBlock]
      split
      · rename_i he; rw [if_pos he] at h2; exact ⟨o', B', S', h1, h2⟩
      · rename_i he; rw [if_neg he] at h2; exact ⟨o', B', S', h1, h2⟩
    | normal => exact ⟨o', B', S', h1, h2⟩
    | outgrown => exact ⟨o', B', S', h1, h2⟩
    | goto l => exact ⟨o', B', S', h1, h2⟩
    | ret => exact ⟨o', B', S', h1, h2⟩
    | panic c => exact ⟨o', B', S', h1, h2⟩)
theorem AWM_cond {c : Operand} {x y : Code} (v : Bool) (hc : evalO S.t c = some (.v (.bool v))) (h1 : v = true → AWM P E b nt x o S Q) (h2 : v = false → AWM P E b nt y o S Q) : AWM P E b nt (.cond c x y) o S Q := fun B a w r =>
  wp_cond_split (r.evalv hc) (fun hb => h1 hb B a w r) (fun hb => h2 hb B a w r)
theorem AWM_go {c : Code} {S' : St} (h : Go2 (E.put b o) nt S S') (k : AWM P E b nt c o S' Q) : AWM P E b nt c o S Q := fun B a w r => by
  obtain ⟨B', r'⟩ := h B a w r
  exact k B' a w r'
end
end Go.Proofs.Ytphojngdgmnpaaa

namespace Go.Proofs.Ytphojngdgmnpaaa
open Go Go.RowKit
set_option linter.unusedVariables false
set_option linter.unusedSimpArgs false
set_option maxRecDepth 100000

section
variable {P : Program} {E : Env} {nt : Nat} {ops : Array Oper} {Q : Exit → Act → World → Prop} {x : Nat → ERec} {s : Sp} {A : List Nat}
theorem wpAny_last {n : Nat} (hn : ops.size = n + 1) (good : ∀ i, i < n → GoodAt P E nt ops (opAt ops i) (x i) (fs (opAt ops) x all1 s i))
    (pre : ∀ j, j < ops.size → ∀ p ∈ preds (opAt ops j), p < j) (anc : ancOk ops.toList A = true) (free : ∀ j, j < n → ∀ i, i < j → (A.getD j 0).testBit i = true ∨ NoClash ops (opAt ops i) (x i) (opAt ops j) (x j))
    (allA : ∀ i, i < n → (A.getD n 0).testBit i = true) (hg : (opAt ops n).guard = none)
    (last : ∀ B a w, Rel E nt B (fs (opAt ops) x all1 s n).1 (fs (opAt ops) x all1 s n).2 a w → ∀ (K : Act → World → Prop) (Q' : Exit → Act → World → Prop), (∀ a' w', Q .normal a' w' → K a' w') → (opAt ops n).wp P a w K Q') :
    ∀ (fuel : Nat) (l : Array Bool) (B : Blk) (a : Act) (w : World), l.size = ops.size → listedL l n = false → Down ops (listedL l) → (List.range ops.size).countP (fun i => !listedL l i) ≤ fuel →
      Rel E nt B (fs (opAt ops) x (listedL l) s n).1 (fs (opAt ops) x (listedL l) s n).2 a w → wpAny P .any ops Q fuel l a w := by
  intro fuel
  induction fuel with
  | zero =>
    intro l B a w hs hln hd hf r
    have : 0 < (List.range ops.size).countP (fun i => !listedL l i) := List.countP_pos_iff.2 ⟨n, by simp; omega, by simp [hln]⟩
    omega
  | succ fuel ih =>
    intro l B a w hs hln hd hf r
    refine ⟨fun hr => ?_, fun i hi => ?_⟩
    · have := all_listed hs pre hr n (by omega)
      rw [hln] at this; cases this
    rw [mem_ready hs] at hi
    obtain ⟨hin, hl, hp⟩ := hi
    have ho : ops[i]? = some (opAt ops i) := by simp [opAt, hin]
    by_cases hi_n : i = n
    · subst hi_n
      have hall : ∀ j, j < i → listedL l j = true := fun j hj => anc_in anc (L := listedL l) (fun j hj => hd j (by simpa using hj)) i (by simpa using hin) j hj (allA j hj) hp
      have e : fs (opAt ops) x (listedL l) s i = fs (opAt ops) x all1 s i := fs_congr hall
      rw [e] at r
      have hready : Region.ready .any ops (l.setIfInBounds i true) = [] := by
        rw [List.eq_nil_iff_forall_not_mem]
        intro j hj
        rw [mem_ready (by simpa using hs)] at hj
        obtain ⟨h1, h2, _⟩ := hj
        rw [listed_set (by omega)] at h2
        simp only [addL] at h2
        by_cases c : j = i
        · rw [if_pos c] at h2; cases h2
        · rw [if_neg c, hall j (by omega)] at h2; cases h2
      unfold wpOp
      simp only [ho]
      have hw : Region.wanted (opAt ops i) (yielded ops a.tmps) = true := by unfold Region.wanted; rw [hg]
      rw [if_pos hw]
      refine .inl (last B a w r _ _ fun a' w' hq => ?_)
      cases fuel with
      | zero => exact ⟨hready, hq⟩
      | succ f => exact ⟨fun _ => hq, by rw [hready]; simp⟩
    have hlt : i < n := by omega
    have lo : ∀ j, j < i → listedL l j = false → NoClash ops (opAt ops j) (x j) (opAt ops i) (x i) := by
      intro j hj hjl
      rcases free i hlt j hj with h | h
      · have := anc_in anc (L := listedL l) (fun j hj => hd j (by simpa using hj)) i (by simpa using hin) j hj h hp
        rw [this] at hjl; cases hjl
      · exact h
    have hi' : ∀ j, i < j → j < n → listedL l j = true → NoClash ops (opAt ops i) (x i) (opAt ops j) (x j) := by
      intro j hj hjn hjl
      rcases free j hjn i hj with h | h
      · have := anc_in anc (L := listedL l) (fun j hj => hd j (by simpa using hj)) j (by simp; omega) i hj h (hd j (by omega) hjl)
        rw [this] at hl; cases hl
      · exact h
    have em : min n i = i := by omega
    have at_ : ∀ d ∈ (opAt ops i).looksAt ops, (fs (opAt ops) x (listedL l) s n).1 d = (fs (opAt ops) x all1 s i).1 d := by
      intro d hdm
      have := fs_t (o := opAt ops) (x := x) (s := s) (d := d) hl n (fun j h1 h2 h3 e => (lo j h1 h3).t12 d e hdm) (fun j h1 h2 h3 e => (hi' j h1 h2 h3).t21 d e hdm)
      rwa [em] at this
    have ah : ∀ g, (g ∈ (x i).rh ∨ ∃ p ∈ (x i).e.wr, p.1 = g) → (fs (opAt ops) x (listedL l) s n).2 g = (fs (opAt ops) x all1 s i).2 g := by
      intro g hg
      have := fs_h (o := opAt ops) (x := x) (s := s) (g := g) hl n
        (fun j h1 h2 h3 p hp e => by
          rcases hg with hg | ⟨q, hq, rfl⟩
          · exact (lo j h1 h3).h12 p hp (e ▸ hg)
          · exact (lo j h1 h3).hh p hp q hq e)
        (fun j h1 h2 h3 p hp e => by
          rcases hg with hg | ⟨q, hq, rfl⟩
          · exact (hi' j h1 h2 h3).h21 p hp (e ▸ hg)
          · exact (hi' j h1 h2 h3).hh q hq p hp e.symm)
      rwa [em] at this
    obtain ⟨g1, g2, g3⟩ := good i hlt
    have hadd : fs (opAt ops) x (listedL (l.setIfInBounds i true)) s n = appF (fs (opAt ops) x (listedL l) s n) (opAt ops i) (x i) := by
      rw [← fs_add hl n hlt hi', listed_set (by omega)]
    have hln' : listedL (l.setIfInBounds i true) n = false := by
      rw [listed_set (by omega)]; simp only [addL]; rw [if_neg (by omega)]; exact hln
    have hdown : Down ops (listedL (l.setIfInBounds i true)) := by
      intro j hj hjl p hpm
      rw [listed_set (by omega)] at hjl ⊢
      simp only [addL] at hjl ⊢
      split
      · rfl
      · by_cases h : j = i
        · subst h; exact hp p hpm
        · rw [if_neg h] at hjl
          exact hd j hj hjl p hpm
    have hcount : (List.range ops.size).countP (fun k => !listedL (l.setIfInBounds i true) k) ≤ fuel := by
      rw [listed_set (by omega)]
      have := cnt_lt hl ops.size hin
      omega
    unfold wpOp
    simp only [ho]
    have hw : wantedA ops (opAt ops i) (fs (opAt ops) x (listedL l) s n).1 = some (x i).want := (wantedA_congr at_).trans g1
    split
    · rename_i hwt
      rw [wanted_of r hw] at hwt
      refine .inl (g2 hwt _ _ at_ (fun g hg => ah g (.inl hg)) (fun p hp => ah p.1 (.inr ⟨p, hp, rfl⟩)) B a w r _ _ fun B' a' w' r' => ?_)
      refine ih _ B' a' w' (by simpa using hs) hln' hdown hcount ?_
      rw [hadd]
      exact r'
    · rename_i hwt
      rw [wanted_of r hw] at hwt
      obtain ⟨h1, h2⟩ := g3 (by simpa using hwt)
      refine ih _ B _ w (by simpa using hs) hln' hdown hcount ?_
      rw [hadd, appF, h2]
      exact r.undef h1
end
def orderOkL (ops : Array Oper) (rs : List Rec) : Bool :=
  let l := ops.toList
  let A := masks l []
  let n := rs.length
  decide (ops.size = n + 1) && (List.range ops.size).all (fun j => (preds (l.getD j default)).all (· < j)) && ancOk l A &&
  ((List.range n).all fun j => (List.range j).all fun i => (A.getD j 0).testBit i || !clash ops (l.getD i default) (rs.getD i ⟨[], []⟩) (l.getD j default) (rs.getD j ⟨[], []⟩)) &&
  ((List.range n).all fun i => (A.getD n 0).testBit i) && (l.getD n default).guard.isNone
section
variable {P : Program} {E : Env} {b nt : Nat} {o : Obj} {S : St} {Q : Exit → Obj → St → Prop}
/-- the last operation, from a state -/
def LastOK (P : Program) (E : Env) (b nt : Nat) (op : Oper) (o : Obj) (S : St) (o' : Obj) (S' : St) : Prop :=
  ∀ B a w, Rel (E.put b o) nt B S.t S.h a w → ∀ (K : Act → World → Prop) (Q' : Exit → Act → World → Prop), (∀ B' a' w', Rel (E.put b o') nt B' S'.t S'.h a' w' → K a' w') → op.wp P a w K Q'
theorem AWM_drawLast {id n : Nat} {ops : Array Oper} (hm : P.follows .mixedOrders = true) (h : AWops P (E.put b o) nt ops (ops.toList.take n) S [] (fun S1 rs => orderOkL ops rs = true ∧ rs.length = n ∧ ∃ o' S', LastOK P E b nt (opAt ops n) o S1 o' S' ∧ Q .normal o' S')) : AWM P E b nt (.region id ops true) o S Q := fun B a w r => by
  refine wp_region_any hm ?_
  have r := r.drew
  obtain ⟨xs, h1, ⟨S1, h2, h3⟩, h4⟩ := AWops_ex _ _ _ h
  obtain ⟨hok, hlen, o', S', hlast, hQ⟩ := h2
  rw [List.nil_append] at hok hlen
  unfold orderOkL at hok
  simp only [Bool.and_eq_true, decide_eq_true_eq] at hok
  obtain ⟨⟨⟨⟨⟨k1, k2⟩, k3⟩, k4⟩, k5⟩, k6⟩ := hok
  rw [hlen] at k1 k4 k5 k6
  have hl : (ops.toList.take n).length = n := by rw [List.length_take]; simp; omega
  rw [hl] at h1 h3 h4
  let x : Nat → ERec := fun i => xs.getD i default
  have hx : ∀ i, i < n → (xs.map ERec.rec_).getD i ⟨[], []⟩ = (x i).rec_ := by
    intro i hi
    have : i < xs.length := by omega
    simp [x, List.getD_eq_getElem?_getD, this]
  have ho : ∀ i, i < n → (ops.toList.take n).getD i default = opAt ops i := by
    intro i hi
    simp only [opAt, List.getD_eq_getElem?_getD, List.getElem?_take, if_pos hi]
  have hfs : ∀ k, k ≤ n → fs (fun i => (ops.toList.take n).getD i default) x all1 (S.t, S.h) k = fs (opAt ops) x all1 (S.t, S.h) k := by
    intro k
    induction k with
    | zero => intro _; rfl
    | succ k ih => intro hk; simp only [fs]; rw [ih (by omega), ho k (by omega)]
  have e0 : ∀ i, listedL (Array.replicate ops.size false) i = false := by
    intro i
    simp only [listedL, Array.getD_eq_getD_getElem?, Array.getElem?_replicate]
    split <;> rfl
  have est : ∀ k, fs (opAt ops) x (listedL (Array.replicate ops.size false)) (S.t, S.h) k = (S.t, S.h) := by
    intro k
    induction k with
    | zero => rfl
    | succ k ih => simp only [fs, e0 k]; exact ih
  have hfin : fs (opAt ops) x all1 (S.t, S.h) n = (S1.t, S1.h) := by rw [← hfs n (Nat.le_refl _)]; exact h3.symm
  refine wpAny_last (E := E.put b o) (nt := nt) (x := x) (s := (S.t, S.h)) (A := masks ops.toList []) k1 (fun i hi => ?_) (fun j hj p hp => ?_) k3 (fun j hj i hi => ?_) (fun i hi => ?_) (by simpa using k6) (fun B1 a1 w1 r1 K Q' hK => ?_) ops.size _ B a _ (by simp) (e0 n) (fun j hj h => by rw [e0] at h; cases h) ?_ ?_
  · have := h4 i hi
    rw [hfs i (by omega), ho i hi] at this
    exact this
  · rw [List.all_eq_true] at k2
    have := k2 j (by simpa using hj)
    rw [List.all_eq_true] at this
    simpa using this p hp
  · rw [List.all_eq_true] at k4
    have h5 := k4 j (by simpa using hj)
    rw [List.all_eq_true] at h5
    have h6 := h5 i (by simpa using hi)
    rw [Bool.or_eq_true] at h6
    refine h6.imp (fun h => h) fun h7 => ?_
    rw [hx i (by omega), hx j hj] at h7
    exact noClash (by simpa using h7)
  · rw [List.all_eq_true] at k5
    exact k5 i (by simpa using hi)
  · rw [hfin] at r1
    exact hlast B1 a1 w1 r1 K Q' fun B' a' w' r' => hK a' w' ⟨o', B', S', r', hQ⟩
  · have := List.countP_le_length (p := fun i => !listedL (Array.replicate ops.size false) i) (l := List.range ops.size)
    simpa using this
  · rw [est]; exact r
end
/-! ### the map's operations -/
section
variable {P : Program} {E : Env} {b nt : Nat} {ops : Array Oper} {T : Nat → Option AV} {H : Hp} {d : Option Nat} {ty : TypeId} {pos : String} {af : Array Edge} {gd : Option (Nat × Bool)}
variable {K : Type} {f : K → Value} {ks : List K} {kt et t : TypeId}
theorem put_block {E : Env} {o : Obj} {B : Blk} {a : Act} {w : World} (hlt : b < E.w0.heap.size) (hn : ∀ k, ¬ E.ent k) (r : Rel (E.put b o) nt B T H a w) : w.heap[b]? = some o := by
  have := r.left.block b (by rw [Env.put_size]; exact hlt) (hn b)
  rw [this]
  simp [Env.put, Array.getElem?_setIfInBounds, hlt]
theorem o_setLook [DecidableEq K] {m k : Operand} {x : K} {xa : AV} (hd : dOk nt d = true) (hm : evalO T m = some (.v (.map (some b)))) (hk : evalO T k = some xa) (hxa : ∀ U w B H v, Rdv U w B H xa v → v = f x)
    (hlt : b < E.w0.heap.size) (hn : ∀ k, ¬ E.ent k) (ht : P.underlying t = some (.map kt et)) (hz : ∀ w, (zeroValue et).run P w = .ok (.bool false) w) (law : WideMaps.KeyLaw P kt) (hinj : ∀ k ∈ ks, f k = f x → k = x) (hks : ∀ k ∈ ks, ∃ l, Go.keyOf P kt (f k) = some l) (hx : ∃ l, Go.keyOf P kt (f x) = some l) :
    OpOK P (E.put b (mObj f ks)) nt ops ⟨d, .lookup t m k false, ty, pos, af, gd⟩ T H [] ⟨.v (.bool (decide (x ∈ ks))), []⟩ :=
  ok_val hd fun B T' H' a w r htt hh => by
    have h1 := r.evalv ((htt m (by simp [Op.operands])).trans hm)
    have h2 := hxa _ _ _ _ _ (r.eval ((htt k (by simp [Op.operands])).trans hk))
    have hb := put_block hlt hn r
    refine ⟨.bool (decide (x ∈ ks)), ?_, by rw [Rdv_v]; exact ⟨rfl, rfl⟩⟩
    have := run_setLook ht hz law hinj hks hx hb
    simp [execOp, h1, h2, this]
/-- a key laid into the set -/
theorem last_setPut {m k v : Operand} {x : K} {xa : AV} {S : St} (hm : evalO S.t m = some (.v (.map (some b)))) (hk : evalO S.t k = some xa) (hv : evalO S.t v = some (.v (.bool true))) (hxa : ∀ U w B H v, Rdv U w B H xa v → v = f x)
    (hlt : b < E.w0.heap.size) (hn : ∀ k, ¬ E.ent k) (ht : P.underlying t = some (.map kt et)) (law : WideMaps.KeyLaw P kt) (hinj : ∀ k ∈ ks, f k = f x → k = x) (hks : ∀ k ∈ ks, ∃ l, Go.keyOf P kt (f k) = some l) (hx : ∃ l, Go.keyOf P kt (f x) = some l) (hnew : x ∉ ks) :
    LastOK P E b nt ⟨none, .mapUpdate t m k v, ty, pos, af, gd⟩ (mObj f ks) S (mObj f (ks ++ [x])) S := by
  intro B a w r K' Q' hK
  have h1 := r.evalv hm
  have h2 := hxa _ _ _ _ _ (r.eval hk)
  have h3 := r.evalv hv
  have hb := put_block hlt hn r
  have := run_setPut ht law hinj hks hx hb hnew
  have hr : (execOp a.eval ⟨none, .mapUpdate t m k v, ty, pos, af, gd⟩).run P w = .ok .skip { w with heap := w.heap.setIfInBounds b (mObj f (ks ++ [x])) } := by
    simp [execOp, h1, h2, h3, this, Sem.run_bind]
  unfold Oper.wp
  rw [hr]
  refine hK B _ _ ?_
  have r2 := r.putO (b := b) (o := mObj f ks) (o' := mObj f (ks ++ [x])) (by rw [Env.put_size]; exact hlt) (hn b) hb rfl rfl
  rw [Env.put_put] at r2
  exact r2
end
end Go.Proofs.Ytphojngdgmnpaaa

namespace Go.Proofs.Ytphojngdgmnpaaa
open Go Go.RowKit
set_option linter.unusedVariables false
set_option linter.unusedSimpArgs false
set_option maxRecDepth 100000

/-! ### which cells a key's type takes -/
inductive Tg where
  | b
  | i (k : IntKind)
def tagOk : Tg → Value → Prop
  | .b, v => ∃ x, v = .bool x
  | .i q, v => ∃ n, v = .int q n ∧ (Lit.int q n).wf = true
def TagsOk (ts : List Tg) (cs : List Value) : Prop := ts.length = cs.length ∧ ∀ (i : Nat) (t : Tg) (c : Value), ts[i]? = some t → cs[i]? = some c → tagOk t c
theorem TagsOk.part {ts : List Tg} {cs : List Value} (h : TagsOk ts cs) (a n : Nat) : TagsOk ((ts.drop a).take n) ((cs.drop a).take n) := by
  obtain ⟨h1, h2⟩ := h
  refine ⟨by simp [h1], fun i t c ht hc => ?_⟩
  rw [List.getElem?_take] at ht hc
  split at ht
  · rename_i hi
    rw [if_pos hi] at hc
    rw [List.getElem?_drop] at ht hc
    exact h2 _ _ _ ht hc
  · cases ht
theorem TagsOk.append {ts us : List Tg} {cs ds : List Value} (h : TagsOk ts cs) (k : TagsOk us ds) : TagsOk (ts ++ us) (cs ++ ds) := by
  obtain ⟨h1, h2⟩ := h
  obtain ⟨k1, k2⟩ := k
  refine ⟨by simp [h1, k1], fun i t c ht hc => ?_⟩
  by_cases hi : i < ts.length
  · rw [List.getElem?_append_left hi] at ht
    rw [List.getElem?_append_left (by omega)] at hc
    exact h2 _ _ _ ht hc
  · rw [List.getElem?_append_right (by omega)] at ht
    rw [List.getElem?_append_right (by omega), ← h1] at hc
    exact k2 _ _ _ ht hc
theorem TagsOk.cons {t : Tg} {ts : List Tg} {c : Value} {cs : List Value} (h : tagOk t c) (k : TagsOk ts cs) : TagsOk (t :: ts) (c :: cs) := by
  refine TagsOk.append (ts := [t]) (cs := [c]) ⟨rfl, fun i u d hu hd => ?_⟩ k
  cases i with
  | zero => simp at hu hd; subst hu hd; exact h
  | succ i => simp at hu
theorem TagsOk.nil : TagsOk [] [] := ⟨rfl, fun i t c h => by simp at h⟩
theorem TagsOk.all {t : Tg} {cs : List Value} {n : Nat} (hn : cs.length = n) (h : ∀ c ∈ cs, tagOk t c) : TagsOk (List.replicate n t) cs := by
  refine ⟨by simp [hn], fun i u c hu hc => ?_⟩
  rw [List.getElem?_replicate] at hu
  split at hu
  · injection hu with hu; subst hu; exact h c (List.mem_of_getElem? hc)
  · cases hu
theorem TagsOk.flatT {α : Type} {ts : List Tg} {arr : α → Array Value} : ∀ (xs : List α), (∀ x ∈ xs, TagsOk ts (arr x).toList) → TagsOk (List.replicate xs.length ts).flatten (flat arr xs)
  | [], _ => TagsOk.nil
  | x :: xs, h => by
    have e : flat arr (x :: xs) = (arr x).toList ++ flat arr xs := rfl
    rw [e, List.length_cons, List.replicate_succ, List.flatten_cons]
    exact (h x (by simp)).append (TagsOk.flatT xs fun y hy => h y (by simp [hy]))
def okLits (P : Program) : Nat → TypeId → List Tg → Bool
  | 0, _, _ => false
  | d + 1, t, ts => match P.underlying t with
    | some .bool => match ts with
      | [.b] => true
      | _ => false
    | some (.int q) => match ts with
      | [.i q'] => decide (q' = q)
      | _ => false
    | some (.array n e) => Nat.beq ts.length (P.cellsOf t) && (List.range n).all fun i => okLits P d e ((ts.drop (i * P.cellsOf e)).take (P.cellsOf e))
    | some (.struct fs) => Nat.beq ts.length (P.cellsOf t) && fs.all (·.name != "_") && fs.toList.all fun f => okLits P d f.type ((ts.drop f.offset).take (P.cellsOf f.type))
    | _ => false
theorem mapM_ex {α β : Type} {f : α → Option β} : ∀ (l : List α), (∀ x ∈ l, ∃ y, f x = some y) → ∃ ys, l.mapM f = some ys
  | [], _ => ⟨[], rfl⟩
  | x :: l, h => by
    obtain ⟨y, hy⟩ := h x (by simp)
    obtain ⟨ys, hys⟩ := mapM_ex l fun z hz => h z (by simp [hz])
    exact ⟨y :: ys, by simp [List.mapM_cons, hy, hys]⟩
theorem keyLits_ok {P : Program} : ∀ (d : Nat) (t : TypeId) (ts : List Tg) (cs : List Value), TagsOk ts cs → okLits P d t ts = true → ∃ l, P.keyLits d t cs = some l
  | 0, _, _, _, _, h => by simp [okLits] at h
  | d + 1, t, ts, cs, hT, h => by
    obtain ⟨hl, hg⟩ := id hT
    unfold okLits at h
    cases hu : P.underlying t with
    | none => rw [hu] at h; cases h
    | some td =>
      rw [hu] at h
      cases td with
      | bool =>
        simp only at h
        match ts, cs, hl with
        | [], [], _ => simp at h
        | [.b], [c], _ =>
          obtain ⟨x, rfl⟩ := hg 0 .b c rfl rfl
          exact ⟨[.bool x], by simp [Program.keyLits, hu]⟩
        | [.i q], [c], _ => simp at h
        | a :: a' :: r, _, _ => simp at h
      | int q =>
        simp only at h
        match ts, cs, hl with
        | [], [], _ => simp at h
        | [.b], [c], _ => simp at h
        | [.i q'], [c], _ =>
          obtain rfl : q' = q := by simpa using h
          obtain ⟨n, rfl, hw⟩ := hg 0 (.i q') c rfl rfl
          exact ⟨[.int q' n], by simp [Program.keyLits, hu, hw]⟩
        | a :: a' :: r, _, _ => simp at h
      | array n e =>
        simp only [Bool.and_eq_true, List.all_eq_true] at h
        obtain ⟨h1, h2⟩ := h
        have h1 := Nat.eq_of_beq_eq_true h1
        obtain ⟨ys, hys⟩ := mapM_ex (f := fun i => P.keyLits d e ((cs.drop (i * P.cellsOf e)).take (P.cellsOf e))) (List.range n) fun i hi => keyLits_ok d e _ _ (hT.part _ _) (h2 i hi)
        exact ⟨ys.flatten, by simp [Program.keyLits, hu, ← hl, h1, hys]⟩
      | struct fs =>
        simp only [Bool.and_eq_true] at h
        obtain ⟨⟨h1, h3⟩, h2⟩ := h
        rw [List.all_eq_true] at h2
        have h1 := Nat.eq_of_beq_eq_true h1
        obtain ⟨ys, hys⟩ := mapM_ex (f := fun f : Field => P.keyLits d f.type ((cs.drop f.offset).take (P.cellsOf f.type))) fs.toList fun f hf => keyLits_ok d f.type _ _ (hT.part _ _) (h2 f hf)
        refine ⟨ys.flatten, ?_⟩
        unfold Program.keyLits
        simp only [hu]
        rw [if_pos ⟨by rw [← hl, h1], h3⟩, hys]; rfl
      | _ => simp at h
/-! ### a key -/
def padE (m : List Ent) : List Ent := m ++ List.replicate (14 - m.length) Ent.zero
theorem padE_len {m : List Ent} (h : m.length ≤ 14) : (padE m).length = 14 := by unfold padE; simp; omega
abbrev Ky := List Bool × List Ent
def cellsK (k : Ky) : List Value := k.1.map Value.bool ++ (.int .i64 (k.2.length : Nat) :: flat Ent.arr (padE k.2))
def keyV (k : Ky) : Value := .agg (cellsK k).toArray
structure KyOk (k : Ky) : Prop where
  len : k.1.length = 14
  few : k.2.length ≤ 14
  ok : EOk k.2
def keyA (k : Ky) : AV := .agg 379 [.arr 14 1 (k.1.map boolA), intA (k.2.length : Nat), .arr 364 26 ((padE k.2).map Ent.av)]
theorem flat_len {α : Type} {arr : α → Array Value} {n : Nat} (h : ∀ x, (arr x).size = n) : ∀ (xs : List α), (flat arr xs).length = xs.length * n
  | [] => by simp [flat]
  | x :: xs => by
    have e : flat arr (x :: xs) = (arr x).toList ++ flat arr xs := rfl
    rw [e, List.length_append, flat_len h xs, Array.length_toList, h, List.length_cons, Nat.add_mul]; omega
theorem flat_inj {α : Type} {arr : α → Array Value} {n : Nat} (h : ∀ x, (arr x).size = n) (hi : ∀ x y, arr x = arr y → x = y) : ∀ (xs ys : List α), xs.length = ys.length → flat arr xs = flat arr ys → xs = ys
  | [], [], _, _ => rfl
  | x :: xs, y :: ys, hl, e => by
    have e1 : flat arr (x :: xs) = (arr x).toList ++ flat arr xs := rfl
    have e2 : flat arr (y :: ys) = (arr y).toList ++ flat arr ys := rfl
    rw [e1, e2] at e
    obtain ⟨k1, k2⟩ := List.append_inj e (by rw [Array.length_toList, Array.length_toList, h, h])
    rw [hi x y (Array.ext' k1), flat_inj h hi xs ys (by simpa using hl) k2]
theorem ent_inj (a b : Ent) (h : a.arr = b.arr) : a = b := by
  have h1 := Ent.eql a b default
  have h2 := Ent.eql b b default
  rw [h] at h1
  rw [h1] at h2
  injection h2 with h2
  injection h2 with h2
  have : decide (b = b) = true := decide_eq_true rfl
  rw [this] at h2
  exact of_decide_eq_true h2
theorem keyV_inj {k k' : Ky} (h : KyOk k) (h' : KyOk k') (e : keyV k = keyV k') : k = k' := by
  unfold keyV at e
  injection e with e
  have e : cellsK k = cellsK k' := by simpa using congrArg Array.toList e
  unfold cellsK at e
  obtain ⟨e1, e2⟩ := List.append_inj e (by rw [List.length_map, List.length_map, h.len, h'.len])
  injection e2 with e2 e3
  have e4 : k.1 = k'.1 := List.map_inj_right (fun x y h => by injection h) |>.1 e1
  have e5 : k.2.length = k'.2.length := by injection e2 with _ e2; omega
  have e6 := flat_inj Ent.arr_size ent_inj _ _ (by rw [padE_len h.few, padE_len h'.few]) e3
  have e7 : k.2 = k'.2 := by
    have := congrArg (List.take k.2.length) e6
    unfold padE at this
    rw [List.take_left, e5, List.take_left] at this
    exact this
  exact Prod.ext e4 e7
theorem keyA_rd {k : Ky} {U : Uns} {w : World} {B : Blk} {H : Hp} {v : Value} (h : Rdv U w B H (keyA k) v) : v = keyV k := by
  unfold keyA at h
  rw [Rdv_not (by simp)] at h
  obtain ⟨c, h1, rfl⟩ := h
  simp only [Rd, Rds] at h1
  obtain ⟨hl, c1, c2, rfl, ⟨_, k1⟩, d1, d2, rfl, k2, d3, d4, rfl, ⟨_, k3⟩, rfl⟩ := h1
  have k1' := (rdu_cells (av := boolA) (cell := Value.bool) (fun _ => rfl) (fun _ => rfl) k.1).1 k1
  have k3' := (DT.rdu (D := dEnt) (padE k.2)).1 k3
  have k2' : d1 = [.int .i64 (k.2.length : Nat)] := by
    unfold intA at k2; simp only [Rd] at k2; exact k2.2
  subst k1' k2' k3'
  show Value.agg _ = _
  unfold keyV cellsK
  simp
  rfl
/-! ### the key's type -/
def entTags : List Tg := (.i .i64 :: List.replicate 8 (.i .u8)) ++ (.i .i64 :: List.replicate 16 (.i .u8))
def keyTags : List Tg := List.replicate 14 .b ++ (.i .i64 :: (List.replicate 14 entTags).flatten)
theorem wf_i64 {n : Int} (h : -9223372036854775808 ≤ n ∧ n ≤ 9223372036854775807) : (Lit.int .i64 n).wf = true := by
  simp [Lit.wf, IntKind.min, IntKind.max, IntKind.signed, IntKind.bits]; omega
theorem tag_bytes {n : Nat} (b : Vector (BitVec 8) n) : TagsOk (List.replicate n (.i .u8)) (bArr b).toList := by
  refine TagsOk.all (by rw [Array.length_toList, bArr_size]) fun c hc => ?_
  rw [bArr_def] at hc
  simp only [Array.toList_map, List.mem_map] at hc
  obtain ⟨x, _, rfl⟩ := hc
  refine ⟨_, rfl, ?_⟩
  have := x.isLt
  rw [B8_def]
  simp [Lit.wf, IntKind.min, IntKind.max, IntKind.signed, IntKind.bits]
  omega
theorem tag_ent {e : Ent} (h1 : e.key.ok = true) (h2 : e.val.ok = true) : TagsOk entTags e.arr.toList := by
  obtain ⟨k0, k8, _⟩ := (Key.ok_iff _).1 h1
  obtain ⟨v0, v16, _⟩ := (Vl.ok_iff _).1 h2
  rw [Ent.arr_def, cat_list, Key.arr_def, Vl.arr_def, cat_list, cat_list, cel_list, cel_list]
  unfold entTags
  exact (TagsOk.cons (t := .i .i64) (c := .int .i64 e.key.n) ⟨_, rfl, wf_i64 (by omega)⟩ (tag_bytes _)).append (TagsOk.cons (t := .i .i64) (c := .int .i64 e.val.n) ⟨_, rfl, wf_i64 (by omega)⟩ (tag_bytes _))
theorem tag_key {k : Ky} (h : KyOk k) : TagsOk keyTags (cellsK k) := by
  unfold keyTags cellsK
  refine (TagsOk.all (t := .b) (by rw [List.length_map, h.len]) fun c hc => ?_).append (TagsOk.cons (t := .i .i64) (c := .int .i64 (k.2.length : Nat)) ⟨_, rfl, wf_i64 (by have := h.few; omega)⟩ ?_)
  · rw [List.mem_map] at hc
    obtain ⟨x, _, rfl⟩ := hc
    exact (show tagOk .b (.bool x) from ⟨x, rfl⟩)
  · have := TagsOk.flatT (ts := entTags) (arr := Ent.arr) (padE k.2) fun e he => ?_
    · rw [padE_len h.few] at this; exact this
    · unfold padE at he
      rw [List.mem_append] at he
      rcases he with he | he
      · exact tag_ent (h.ok e he).1 (h.ok e he).2
      · obtain rfl := List.eq_of_mem_replicate he
        exact tag_ent key_zero_ok Vl.zero_ok
theorem state_under : ∃ fs, Try.prog.underlying 100 = some (.struct fs) := ⟨_, Try.underlying100⟩
theorem okLits_state : okLits Try.prog (Try.prog.types.size + 1) 100 keyTags = true := by kernel_rfl
theorem keyType_state : Try.prog.keyType 100 = true := by kernel_rfl
theorem cellsOf_state : Try.prog.cellsOf 100 = 379 := by kernel_rfl
theorem cellsK_len {k : Ky} (h : KyOk k) : (cellsK k).length = 379 := by
  have := (tag_key h).1
  rw [← this]; rfl
theorem key_some {k : Ky} (h : KyOk k) : ∃ l, Go.keyOf Try.prog 100 (keyV k) = some l := by
  obtain ⟨l, hl⟩ := keyLits_ok _ _ _ _ (tag_key h) okLits_state
  obtain ⟨fs, hu⟩ := state_under
  refine ⟨.string (keyBytes l), ?_⟩
  unfold Go.keyOf
  have hf : (keyV k).formed Try.prog 100 = true := by
    unfold keyV Value.formed
    simp only [hu]
    simp [cellsK_len h, cellsOf_state]
  have hc : (keyV k).cells.toList = cellsK k := by unfold keyV; simp [Value.cells]
  simp only [hu, keyType_state, hf, hc, hl]
  simp
theorem state_law : WideMaps.KeyLaw Try.prog 100 := deep_law_gate (by kernel_rfl) (of_decide_eq_true (by kernel_rfl)) (of_decide_eq_true (by kernel_rfl)) keyType_state (by kernel_rfl)
end Go.Proofs.Ytphojngdgmnpaaa
