/-
  M2: several texts as one: StructsBase, AbsMem4, AbsW, AbsMem5, Tab, Structs, Types, AbsTypes, AbsTac. No condition beyond those that each theorem states.
-/
import Derived.Test.YtphojngdgmnpaaaM1
import Derived.Laws.StructEq
import Derived.Laws.Tables
import Derived.Laws.BytesString
import Derived.Great.BuildSlice
import Derived.Laws.MakeOwn
import Derived.Test.YtphojngdgmnpaaaRows
namespace Go.Proofs.Ytphojngdgmnpaaa
open Go Go.RowKit
set_option linter.unusedVariables false
set_option linter.unusedSimpArgs false
set_option maxRecDepth 100000

theorem B8_zero : B8 0#8 = 0 := by rw [B8_def]; rfl
theorem D64_zero : D64 0#64 = 0 := by rw [D64_def]; rfl

theorem B8_beq0 (x : BitVec 8) : (B8 x == 0) = decide (x = 0#8) := by rw [← B8_zero, B8_beq]
theorem B8_bne0 (x : BitVec 8) : (B8 x != 0) = !decide (x = 0#8) := by rw [bne, B8_beq0]
theorem B8_bne (x y : BitVec 8) : (B8 x != B8 y) = !decide (x = y) := by rw [bne, B8_beq]
theorem D64_beq0 (x : BitVec 64) : (D64 x == 0) = decide (x = 0#64) := by rw [← D64_zero, D64_beq]
theorem D64_bne0 (x : BitVec 64) : (D64 x != 0) = !decide (x = 0#64) := by rw [bne, D64_beq0]
theorem D64_bne (x y : BitVec 64) : (D64 x != D64 y) = !decide (x = y) := by rw [bne, D64_beq]
attribute [go_sem] B8_zero D64_zero B8_beq0 B8_bne0 B8_bne D64_beq0 D64_bne0 D64_bne

/-! ### bytes as a row -/
@[irreducible] def bArr {n : Nat} (x : Vector (BitVec 8) n) : Array Value := x.toArray.map fun b => .int .u8 (B8 b)
theorem bArr_def {n : Nat} (x : Vector (BitVec 8) n) : bArr x = x.toArray.map fun b => .int .u8 (B8 b) := by unfold bArr; rfl
theorem bArr_size {n : Nat} (x : Vector (BitVec 8) n) : (bArr x).size = n := by rw [bArr_def]; simp
theorem bArr_one {n : Nat} (x : Vector (BitVec 8) n) : oneCells (bArr x) = true := by
  rw [bArr_def]; unfold oneCells
  rw [Array.all_map, Array.all_eq_true]
  intro i hi; rfl
theorem bArr_get {n : Nat} (x : Vector (BitVec 8) n) (i : Nat) (h : i < n) : (bArr x)[i]? = some (.int .u8 (B8 x[i])) := by
  rw [bArr_def]; simp [h]
theorem bArr_zero (n : Nat) : bArr (Vector.replicate n 0#8) = (List.replicate n (Value.int .u8 0)).toArray := by
  rw [bArr_def]; simp [B8_zero]

/-! ### parts of rows -/
theorem oneCells_append (a b : Array Value) : oneCells (a ++ b) = (oneCells a && oneCells b) := by unfold oneCells; rw [Array.all_append]
theorem oneCells_single (v : Value) : oneCells #[v] = v.oneCell' := by unfold oneCells; simp
theorem rowOf_append_left (a b : Array Value) (off n : Nat) (h : off + n ≤ a.size) : rowOf (a ++ b) off n = rowOf a off n := by
  unfold rowOf
  rw [if_pos (by rw [Array.size_append]; omega), if_pos h]
  congr 1
  apply Array.ext_getElem?
  intro k
  rw [Array.getElem?_extract, Array.getElem?_extract, Array.size_append]
  by_cases hk : k < n
  · rw [if_pos (by omega), if_pos (by omega), Array.getElem?_append_left (by omega)]
  · rw [if_neg (by omega), if_neg (by omega)]
theorem rowOf_append_right (a b : Array Value) (off n : Nat) (h : a.size ≤ off) : rowOf (a ++ b) off n = rowOf b (off - a.size) n := by
  unfold rowOf
  rw [Array.size_append]
  by_cases hk : off + n ≤ a.size + b.size
  · rw [if_pos hk, if_pos (by omega)]
    congr 1
    apply Array.ext_getElem?
    intro k
    rw [Array.getElem?_extract, Array.getElem?_extract, Array.size_append]
    by_cases hk : k < n
    · rw [if_pos (by omega), if_pos (by omega), Array.getElem?_append_right (by omega)]; congr 1; omega
    · rw [if_neg (by omega), if_neg (by omega)]
  · rw [if_neg hk, if_neg (by omega)]
theorem rowOf_here (a : Array Value) (n : Nat) (h : a.size = n) : rowOf a 0 n = some a := rowOf_full a n h
theorem splice_append_left (a b cs : Array Value) (off : Nat) (h : off + cs.size ≤ a.size) : splice (a ++ b) off cs = splice a off cs ++ b := by
  apply Array.ext_getElem?
  intro k
  rw [splice_get (by rw [Array.size_append]; omega), Array.getElem?_append, Array.getElem?_append, splice_size _ _ _ h, splice_get h]
  by_cases hk : k < a.size
  · rw [if_pos hk, if_pos hk]
  · rw [if_neg hk, if_neg hk, if_neg (by omega)]
theorem splice_append_right (a b cs : Array Value) (off : Nat) (h : a.size ≤ off) (h2 : off + cs.size ≤ a.size + b.size) : splice (a ++ b) off cs = a ++ splice b (off - a.size) cs := by
  apply Array.ext_getElem?
  intro k
  rw [splice_get (by rw [Array.size_append]; omega), Array.getElem?_append, Array.getElem?_append, splice_get (by omega)]
  by_cases hk : k < a.size
  · rw [if_pos hk, if_pos hk, if_neg (by omega)]
  · rw [if_neg hk, if_neg hk]
    by_cases h3 : off ≤ k ∧ k < off + cs.size
    · rw [if_pos h3, if_pos (by omega)]; congr 1; omega
    · rw [if_neg h3, if_neg (by omega)]
/-- rows one behind the other, and rows of one cell: closed words -/
@[irreducible] def cat (a b : Array Value) : Array Value := a ++ b
theorem cat_def (a b : Array Value) : cat a b = a ++ b := by unfold cat; rfl
@[irreducible] def cel (v : Value) : Array Value := #[v]
theorem cel_def (v : Value) : cel v = #[v] := by unfold cel; rfl
theorem cat_size (a b : Array Value) : (cat a b).size = a.size + b.size := by rw [cat_def]; simp
theorem cel_size (v : Value) : (cel v).size = 1 := by rw [cel_def]; rfl
theorem oneCells_cat (a b : Array Value) : oneCells (cat a b) = (oneCells a && oneCells b) := by rw [cat_def, oneCells_append]
theorem oneCells_cel (v : Value) : oneCells (cel v) = v.oneCell' := by rw [cel_def, oneCells_single]
theorem cel_get (v : Value) : (cel v)[0]? = some v := by rw [cel_def]; rfl
theorem rowOf_cat_left (a b : Array Value) (off n : Nat) (h : off + n ≤ a.size) : rowOf (cat a b) off n = rowOf a off n := by rw [cat_def, rowOf_append_left _ _ _ _ h]
theorem rowOf_cat_right (a b : Array Value) (off n : Nat) (h : a.size ≤ off) : rowOf (cat a b) off n = rowOf b (off - a.size) n := by rw [cat_def, rowOf_append_right _ _ _ _ h]
theorem splice_cat_left (a b cs : Array Value) (off : Nat) (h : off + cs.size ≤ a.size) : splice (cat a b) off cs = cat (splice a off cs) b := by rw [cat_def, cat_def, splice_append_left _ _ _ _ h]
theorem splice_cat_right (a b cs : Array Value) (off : Nat) (h : a.size ≤ off) (h2 : off + cs.size ≤ a.size + b.size) : splice (cat a b) off cs = cat a (splice b (off - a.size) cs) := by rw [cat_def, cat_def, splice_append_right _ _ _ _ h h2]
theorem get_of_row {c : Array Value} {i : Nat} {v : Value} (h : rowOf c i 1 = some (cel v)) : c[i]? = some v := by
  have := (rowOf_spec h).2.2 0 (by omega)
  rw [Nat.add_zero, cel_get] at this
  exact this
theorem splice_all (c cs : Array Value) (h : cs.size = c.size) : splice c 0 cs = cs := splice_full c cs h
theorem splice_single (s : Array Value) (i : Nat) (v : Value) (h : i < s.size) : splice s i #[v] = s.setIfInBounds i v := by
  apply Array.ext_getElem?
  intro k
  rw [splice_get (by simp; omega), Array.getElem?_setIfInBounds]
  by_cases hk : i = k
  · subst hk; rw [if_pos (by simp), if_pos rfl, if_pos h]; simp
  · rw [if_neg (by simp; omega), if_neg hk]
theorem zero_of_info {P : Program} {t : TypeId} {z : Value} {n : Nat} (h : (P.info? t).map (fun i => (i.zero, i.size)) = some (some z, n)) : (P.info? t).bind (·.zero) = some z := by
  cases hq : P.info? t with
  | none => rw [hq] at h; cases h
  | some i => rw [hq] at h; simp at h; simpa using h.1

/-! ### texts of bytes, and back -/
@[irreducible] def bytesOf (l : List (BitVec 8)) : ByteArray := ⟨(l.map UInt8.ofBitVec).toArray⟩
def bitsOf (s : ByteArray) : List (BitVec 8) := s.data.toList.map (·.toBitVec)
theorem bytesOf_def (l : List (BitVec 8)) : bytesOf l = ⟨(l.map UInt8.ofBitVec).toArray⟩ := by unfold bytesOf; rfl
theorem bytes_bits (s : ByteArray) : bytesOf (bitsOf s) = s := by
  unfold bitsOf bytesOf
  simp [Function.comp_def]
theorem bytesOf_size (l : List (BitVec 8)) : (bytesOf l).size = l.length := by
  rw [bytesOf_def]; show (Array.size _) = _; simp
theorem bitsOf_length (s : ByteArray) : (bitsOf s).length = s.size := by
  show _ = s.data.size
  unfold bitsOf; simp
theorem bytesOf_nil : bytesOf [] = .empty := by rw [bytesOf_def]; rfl
/-! ### bytes as a list -/
/-- a byte as a cell -/
def be (x : BitVec 8) : Array Value := #[.int .u8 (B8 x)]
theorem be_ok : EncOk be 1 := ⟨fun _ => rfl, fun _ => by simp [be, oneCells, Value.oneCell'], by omega⟩
theorem flat_be (l : List (BitVec 8)) : flat be l = l.map fun x => Value.int .u8 (B8 x) := by
  induction l with
  | nil => rfl
  | cons x l ih => rw [List.map_cons, ← ih]; rfl
theorem row_bytes {w : World} {g o m : Nat} {b : Vector (BitVec 8) m} (h : row? w g o m = some (bArr b)) (i : Nat) (hi : i < m) : row? w g (o + i * 1) 1 = some (be b[i]) := by
  rw [Nat.mul_one]
  refine row_of_cell ?_
  exact row_cell h hi (bArr_get b i hi)
/-- the bytes of a row, as a slice -/
theorem sl_of_bArr {w : World} {g o m : Nat} {b : Vector (BitVec 8) m} (h : row? w g o m = some (bArr b)) (n cap : Nat) (hn : n ≤ m) (hc : n ≤ cap) (hm : cap ≤ maxLen) : Sl be 1 w (.slice (some ⟨g, o, none⟩) n cap) (b.toList.take n) := by
  have hl : (b.toList.take n).length = n := by simp; omega
  refine ⟨some ⟨g, o, none⟩, cap, by rw [hl], by rw [hl]; exact hc, hm, fun _ => ⟨g, o, rfl, row_lt h, fun i hi => ?_⟩⟩
  rw [row_bytes h i (by omega)]
  simp
/-- all cells of a list, as one row -/
theorem SlAt.row {α : Type} {enc : α → Array Value} {n : Nat} (hk : EncOk enc n) {w : World} {A : Option Addr} {xs : List α} (h : SlAt enc n w A xs) (h0 : 0 < xs.length) : ∃ b off, A = some ⟨b, off, none⟩ ∧ b < w.heap.size ∧ row? w b off (xs.length * n) = some (flat enc xs).toArray := by
  obtain ⟨b, off, rfl, hb, hr⟩ := h h0
  refine ⟨b, off, rfl, hb, ?_⟩
  have hn := hk.pos
  have hl := hr (xs.length - 1) (by omega)
  unfold row? at hl ⊢
  split at hl
  · rename_i c t fr hc
    have h1 := rowOf_spec hl
    have hm : (xs.length - 1) * n + n = xs.length * n := by rw [← Nat.succ_mul]; congr 1; omega
    unfold rowOf
    rw [if_pos (by omega)]
    congr 1
    apply Array.ext_getElem?
    intro j
    rw [Array.getElem?_extract]
    by_cases hj : j < xs.length * n
    · have hi : j / n < xs.length := (Nat.div_lt_iff_lt_mul hn).2 hj
      have hm2 : j % n < n := Nat.mod_lt _ hn
      have hd : j / n * n + j % n = j := by rw [Nat.mul_comm]; exact Nat.div_add_mod j n
      have h2 := hr (j / n) hi
      unfold row? at h2
      rw [hc] at h2
      have h3 := (rowOf_spec h2).2.2 (j % n) hm2
      rw [if_pos (by omega)]
      rw [Nat.add_assoc, hd] at h3
      rw [h3]
      have h4 := flat_get hk xs (j / n) (j % n) hi hm2
      rw [hd] at h4
      simpa using h4.symm
    · rw [if_neg (by omega), Array.getElem?_eq_none (by simp [flat_length hk]; omega)]
  · cases hl
theorem flat_oneCells {α : Type} {enc : α → Array Value} {n : Nat} (hk : EncOk enc n) (xs : List α) : oneCells (flat enc xs).toArray = true := by
  unfold oneCells
  rw [List.all_toArray, List.all_eq_true]
  exact flat_one hk xs
theorem run_str_sl {P : Program} {src dst e : TypeId} (hs : P.underlying src = some (.slice e)) (he : P.underlying e = some (.int .u8)) (hd : P.underlying dst = some .string) {w : World} {v : Value} {xs : List (BitVec 8)} (h : Sl be 1 w v xs) :
    (convert src dst v).run P w = .ok (.string (bytesOf xs)) w := by
  rw [bytesOf_def]
  obtain ⟨A, cap, rfl, h1, h2, hA⟩ := h
  rw [run_convert_bytes_string w src dst e A xs.length cap hs he hd]
  have hf : ∀ (l : List (BitVec 8)) (s : ByteArray), ((l.map B8).foldl (fun r n => r.push (UInt8.ofNat n.toNat)) s) = ⟨s.data ++ (l.map UInt8.ofBitVec).toArray⟩ := by
    intro l
    induction l with
    | nil => intro s; simp
    | cons x l ih =>
      intro s
      rw [List.map_cons, List.foldl_cons, ih]
      have : UInt8.ofNat (B8 x).toNat = UInt8.ofBitVec x := by
        rw [B8_def, Int.toNat_natCast]
        apply UInt8.toNat_inj.1
        simp
      rw [this]
      congr 1
      simp [ByteArray.push]
  by_cases h0 : 0 < xs.length
  · obtain ⟨b, off, rfl, hb, hr⟩ := SlAt.row be_ok hA h0
    have hl := run_loadCells_row (P := P) hr
    rw [Nat.mul_one] at hl
    rw [run_bytesToString w ⟨b, off, none⟩ xs.length cap (xs.map B8) (by rw [hl, flat_be]; simp [Function.comp_def])]
    rw [hf]
    simp [ByteArray.empty, ByteArray.emptyWithCapacity]
    rfl
  · obtain rfl : xs = [] := List.eq_nil_of_length_eq_zero (by omega)
    cases A with
    | none => simp [Conv.bytesToString, ByteArray.empty, ByteArray.emptyWithCapacity]; rfl
    | some a =>
      have hl : (loadCells a [].length).run P w = .ok [].toArray w := run_loadCells_list (P := P) w a [] (by simp)
      have := run_bytesToString (P := P) w a 0 cap [] (by simpa using hl)
      rw [List.length_nil, this]; rfl

/-! ### copy -/
@[irreducible] def cpRow (ts : Array TypeId) (ty : TypeId) (vs : Array Value) : Sem Value := Builtin.copy_ ts ty vs
@[irreducible] def cpRow' (ts : Array TypeId) (ty : TypeId) (vs : Array Value) : Sem Value := Builtin.copy_ ts ty vs
theorem cpRow_eq (ts : Array TypeId) (ty : TypeId) (vs : Array Value) : Builtin.copy_ ts ty vs = cpRow ts ty vs := by unfold cpRow; rfl
theorem putRow_setRow {w : World} {g o : Nat} {c cs : Array Value} {t : TypeId} {fr : Nat × Nat} (h : w.heap[g]? = some (.cells c t fr)) : w.setRow g (c.toList.take o ++ cs.toList ++ c.toList.drop (o + cs.toList.length)).toArray = putRow w g o cs := by
  unfold putRow World.setRow
  congr 1
  apply Array.ext_getElem?
  intro k
  simp only [Array.getElem?_modify]
  by_cases hk : g = k
  · subst hk
    simp only [h, if_true, Option.map_some]
    rfl
  · simp [hk]
/-- copy: m elements of n cells, that read as cs -/
theorem run_cpRow {P : Program} {dT sT ty elem : TypeId} {n : Nat} (hu : P.underlying dT = some (.slice elem)) (hs : (P.info? elem).map (·.size) = some n) {w : World} {g o dLen dCap b off sLen sCap m : Nat} {cs : Array Value}
    (hm : min sLen dLen = m) (hsrc : row? w b off (m * n) = some cs) (hdst : ∃ old, row? w g o (m * n) = some old) (hf : free? w g = true) (h1 : oneCells cs = true) :
    (cpRow #[dT, sT] ty #[.slice (some ⟨g, o, none⟩) dLen dCap, .slice (some ⟨b, off, none⟩) sLen sCap]).run P w = .ok (.int .i64 (m : Int)) (putRow w g o cs) := by
  unfold cpRow
  obtain ⟨old, hdst⟩ := hdst
  unfold free? at hf
  split at hf
  · rename_i c t fr hb
    obtain rfl : fr = (0, 0) := by simpa using hf
    rw [row_block hb] at hdst
    have hle := (rowOf_spec hdst).2.1
    have hl := run_loadCells_row (P := P) hsrc
    have hcs := (row_cells hsrc).1
    have hst := run_storeCells_at P g o t cs.toList 0 c w hb (by simp; omega) (fun v hv => by
      unfold oneCells at h1
      rw [← Array.all_toList] at h1
      exact List.all_eq_true.1 h1 v hv)
    rw [Nat.add_zero, putRow_setRow hb] at hst
    cases hq : P.info? elem with
    | none => rw [hq] at hs; cases hs
    | some i =>
      have hi : i.size = n := by simpa [hq] using hs
      have hm' : Nat.min sLen dLen = m := hm
      simp [Builtin.copy_, run_underlying hu, Builtin.lenOf, Builtin.firstCells, sizeOf, typeInfo, hq, hi, hm, hm', hl, hst, goInt]
  · cases hf

/-- what a copy leaves -/
@[irreducible] def onCp (m : Nat) (src : Option (Array Value)) (c : Bool) (w : World) (g o : Nat) (r : Result Value) : Result Value :=
  match src with
  | some cs => if c && oneCells cs then .ok (.int .i64 (m : Int)) (putRow w g o cs) else r
  | none => r
theorem onCp_some {m : Nat} {cs : Array Value} {w : World} {g o : Nat} {r : Result Value} (h : oneCells cs = true) : onCp m (some cs) true w g o r = .ok (.int .i64 (m : Int)) (putRow w g o cs) := by unfold onCp; simp [h]
theorem run_cpRow_on {P : Program} {dT sT ty elem : TypeId} {n : Nat} (hu : P.underlying dT = some (.slice elem)) (hs : (P.info? elem).map (·.size) = some n) (w : World) (g o dLen dCap b off sLen sCap : Nat) :
    (cpRow #[dT, sT] ty #[.slice (some ⟨g, o, none⟩) dLen dCap, .slice (some ⟨b, off, none⟩) sLen sCap]).run P w =
      onCp (min sLen dLen) (row? w b off (min sLen dLen * n)) ((row? w g o (min sLen dLen * n)).isSome && free? w g) w g o ((cpRow' #[dT, sT] ty #[.slice (some ⟨g, o, none⟩) dLen dCap, .slice (some ⟨b, off, none⟩) sLen sCap]).run P w) := by
  unfold onCp
  split
  · rename_i cs h
    split
    · rename_i h2
      simp only [Bool.and_eq_true] at h2
      obtain ⟨⟨h3, h4⟩, h5⟩ := h2
      obtain ⟨old, ho⟩ := Option.isSome_iff_exists.1 h3
      exact run_cpRow hu hs rfl h ⟨old, ho⟩ h4 h5
    · unfold cpRow cpRow'; rfl
  · unfold cpRow cpRow'; rfl
/-- copy of nothing -/
theorem run_cpRow_none {P : Program} {dT sT ty elem : TypeId} {n : Nat} (hu : P.underlying dT = some (.slice elem)) (hs : (P.info? elem).map (·.size) = some n) (w : World) (d : Addr) (dLen dCap : Nat) (A : Option Addr) (c : Nat) :
    (cpRow #[dT, sT] ty #[.slice (some d) dLen dCap, .slice A 0 c]).run P w = .ok (.int .i64 0) w := by
  unfold cpRow
  cases hq : P.info? elem with
  | none => rw [hq] at hs; cases hs
  | some i =>
    have hi : i.size = n := by simpa [hq] using hs
    cases A with
    | none => simp [Builtin.copy_, run_underlying hu, Builtin.lenOf, Builtin.firstCells, sizeOf, typeInfo, hq, storeCells, goInt]
    | some a =>
      have hl : (loadCells a [].length).run P w = .ok [].toArray w := run_loadCells_list (P := P) w a [] (by simp)
      rw [List.length_nil] at hl
      simp [Builtin.copy_, run_underlying hu, Builtin.lenOf, Builtin.firstCells, sizeOf, typeInfo, hq, storeCells, goInt, hl]
theorem flat_be_size (xs : List (BitVec 8)) : (flat be xs).toArray.size = xs.length := by simp [flat_length be_ok]
theorem flat_be_one (xs : List (BitVec 8)) : oneCells (flat be xs).toArray = true := flat_oneCells be_ok xs
/-- bytes laid over others -/
def over {m : Nat} (b : Vector (BitVec 8) m) (xs : List (BitVec 8)) : Vector (BitVec 8) m := Vector.ofFn fun i => xs[i.1]?.getD b[i.1]
theorem over_get {m : Nat} (b : Vector (BitVec 8) m) (xs : List (BitVec 8)) (i : Nat) (h : i < m) : (over b xs)[i] = xs[i]?.getD b[i] := by unfold over; simp
theorem bArr_over {m : Nat} (b : Vector (BitVec 8) m) (xs : List (BitVec 8)) (h : xs.length ≤ m) : splice (bArr b) 0 (flat be xs).toArray = bArr (over b xs) := by
  apply Array.ext_getElem?
  intro i
  rw [splice_get (by rw [flat_be_size, bArr_size]; omega), flat_be_size]
  by_cases hm : i < m
  · rw [bArr_get b i hm, bArr_get _ i hm, over_get]
    by_cases hx : i < xs.length
    · rw [if_pos (by omega), flat_be]
      simp [hx]
    · rw [if_neg (by omega)]
      simp [hx]
  · rw [if_neg (by omega), Array.getElem?_eq_none (by rw [bArr_size]; omega), Array.getElem?_eq_none (by rw [bArr_size]; omega)]
theorem bArr_part {m : Nat} (b : Vector (BitVec 8) m) (n : Nat) (h : n ≤ m) : rowOf (bArr b) 0 n = some (flat be (b.toList.take n)).toArray := by
  unfold rowOf
  rw [if_pos (by rw [bArr_size]; omega)]
  congr 1
  apply Array.ext_getElem?
  intro i
  rw [Array.getElem?_extract, flat_be]
  by_cases hx : i < n
  · rw [if_pos (by rw [bArr_size]; omega), Nat.zero_add, bArr_get _ i (by omega)]
    simp [hx, show i < m from by omega]
  · rw [if_neg (by rw [bArr_size]; omega)]
    simp; omega
theorem splice_part {c cs part : Array Value} {off m : Nat} (h : rowOf c off m = some cs) (hp : part.size ≤ m) : splice c off part = splice c off (splice cs 0 part) := by
  obtain ⟨h1, h2, h3⟩ := rowOf_spec h
  have hs : (splice cs 0 part).size = m := by rw [splice_size _ _ _ (by omega)]; exact h1
  apply Array.ext_getElem?
  intro k
  rw [splice_get (by omega), splice_get (by omega), hs]
  by_cases hk : off ≤ k ∧ k < off + m
  · rw [if_pos hk, splice_get (by omega)]
    by_cases hk2 : k < off + part.size
    · rw [if_pos (by omega), if_pos (by omega)]; congr 1
    · rw [if_neg (by omega), if_neg (by omega)]
      have := h3 (k - off) (by omega)
      rw [show off + (k - off) = k from by omega] at this
      exact this
  · rw [if_neg (by omega), if_neg hk]
theorem rowOf_part {c cs : Array Value} {off m : Nat} (h : rowOf c off m = some cs) (n : Nat) (hn : n ≤ m) : rowOf c off n = rowOf cs 0 n := by
  have := rowOf_sub h (o := 0) (m := n) (by omega)
  simpa using this
theorem splice_row_one {c : Array Value} {off m : Nat} {b : Vector (BitVec 8) m} (h : rowOf c off m = some (bArr b)) (i : Nat) (hi : i < m) (x : BitVec 8) : splice c (off + i) #[.int .u8 (B8 x)] = splice c off (bArr (b.setIfInBounds i x)) := by
  obtain ⟨h1, h2, h3⟩ := rowOf_spec h
  have hs := bArr_size (b.setIfInBounds i x)
  apply Array.ext_getElem?
  intro k
  rw [splice_get (by simp; omega), splice_get (by omega), hs]
  by_cases hk : off ≤ k ∧ k < off + m
  · rw [if_pos hk]
    have hb := bArr_get (b.setIfInBounds i x) (k - off) (by omega)
    rw [hb]
    by_cases hki : k = off + i
    · subst hki
      rw [if_pos (by simp)]
      simp
    · rw [if_neg (by simp; omega)]
      have h4 := h3 (k - off) (by omega)
      rw [show off + (k - off) = k from by omega, bArr_get _ _ (by omega)] at h4
      rw [h4]
      congr 2
      simp [show ¬ i = k - off from by omega]
  · rw [if_neg (by simp; omega), if_neg hk]
attribute [go_sem] onCp_some flat_be_one flat_be_size

/-! ### equality, field by field -/
/-- a field (whether it is blank, its type, its place): whether both have it alike -/
def EqF (P : Program) (d : Nat) (xs ys : Array Value) (f : Bool × TypeId × Nat) (r : Bool) : Prop :=
  f.1 = false ∧ ∀ w, ∃ a b, (part f.2.1 xs f.2.2).run P w = .ok a w ∧ (part f.2.1 ys f.2.2).run P w = .ok b w ∧ (Op.equalIn d f.2.1 a b).run P w = .ok r w
def EqFs (P : Program) (d : Nat) (xs ys : Array Value) : List (Bool × TypeId × Nat) → Bool → Prop
  | [], r => r = true
  | f :: fs, r => ∃ a b, EqF P d xs ys f a ∧ EqFs P d xs ys fs b ∧ r = (a && b)
section
variable {P : Program} {d : Nat} {xs ys : Array Value} {t : TypeId} {off : Nat}
theorem EqFs.nil : EqFs P d xs ys [] true := rfl
theorem EqFs.cons {f : Bool × TypeId × Nat} {fs : List (Bool × TypeId × Nat)} {a b : Bool} (h : EqF P d xs ys f a) (k : EqFs P d xs ys fs b) : EqFs P d xs ys (f :: fs) (a && b) := ⟨a, b, h, k, rfl⟩
theorem EqF.int {k : IntKind} {a b : Int} (hu : P.underlying t = some (.int k)) (ha : xs[off]? = some (.int k a)) (hb : ys[off]? = some (.int k b)) : EqF P (d + 1) xs ys (false, t, off) (a == b) :=
  ⟨rfl, fun w => ⟨.int k a, .int k b, by simp [part, isAgg, run_underlying hu, ha], by simp [part, isAgg, run_underlying hu, hb], run_equalIn_int w d t k k a b hu⟩⟩
theorem EqF.u64 {a b : BitVec 64} (hu : P.underlying t = some (.int .u64)) (ha : xs[off]? = some (.int .u64 (D64 a))) (hb : ys[off]? = some (.int .u64 (D64 b))) : EqF P (d + 1) xs ys (false, t, off) (a == b) := by
  have h := EqF.int (d := d) hu ha hb
  rw [D64_beq] at h
  have e : decide (a = b) = (a == b) := by rw [Bool.eq_iff_iff]; simp
  rwa [e] at h
theorem EqF.bool {a b : Bool} (hu : P.underlying t = some .bool) (ha : xs[off]? = some (.bool a)) (hb : ys[off]? = some (.bool b)) : EqF P (d + 1) xs ys (false, t, off) (a == b) :=
  ⟨rfl, fun w => ⟨.bool a, .bool b, by simp [part, isAgg, run_underlying hu, ha], by simp [part, isAgg, run_underlying hu, hb], run_equalIn_bool w d t a b hu⟩⟩
theorem EqF.str {a b : ByteArray} (hu : P.underlying t = some .string) (ha : xs[off]? = some (.string a)) (hb : ys[off]? = some (.string b)) : EqF P (d + 1) xs ys (false, t, off) (a == b) :=
  ⟨rfl, fun w => ⟨.string a, .string b, by simp [part, isAgg, run_underlying hu, ha], by simp [part, isAgg, run_underlying hu, hb], by rw [run_equalIn_string w d t a b hu, beq_toListBytes]⟩⟩
theorem EqF.agg {n : Nat} {td : TypeDesc} {a b : Array Value} {r : Bool} (hu : P.underlying t = some td) (hd : (match td with | .struct _ | .array _ _ => true | _ => false) = true) (hi : (P.info? t).map (·.size) = some n)
    (ha : rowOf xs off n = some a) (hb : rowOf ys off n = some b) (he : ∀ w, (Op.equalIn d t (.agg a) (.agg b)).run P w = .ok r w) : EqF P d xs ys (false, t, off) r := by
  refine ⟨rfl, fun w => ⟨.agg a, .agg b, ?_, ?_, he w⟩⟩
  · unfold rowOf at ha
    split at ha
    · injection ha with ha
      cases hq : P.info? t with
      | none => rw [hq] at hi; cases hi
      | some i =>
        have hs' : i.size = n := by simpa [hq] using hi
        cases td <;> simp_all [part, isAgg, run_underlying hu, sizeOf, typeInfo]
    · cases ha
  · unfold rowOf at hb
    split at hb
    · injection hb with hb
      cases hq : P.info? t with
      | none => rw [hq] at hi; cases hi
      | some i =>
        have hs' : i.size = n := by simpa [hq] using hi
        cases td <;> simp_all [part, isAgg, run_underlying hu, sizeOf, typeInfo]
    · cases hb
theorem run_eqFields_of : ∀ (fs : List Field) (gs : List (Bool × TypeId × Nat)) (r : Bool), fs.map (fun f => (f.name == "_", f.type, f.offset)) = gs → EqFs P d xs ys gs r → ∀ w, (Op.eqFields d xs ys fs).run P w = .ok r w := by
  intro fs
  induction fs with
  | nil => intro gs r hg h w; subst hg; obtain rfl : r = true := h; simp [Op.eqFields]
  | cons f fs ih =>
    intro gs r hg h w
    subst hg
    obtain ⟨a, b, ⟨hn, h1⟩, h2, rfl⟩ := h
    obtain ⟨x, y, hx, hy, hr⟩ := h1 w
    have hn' : f.name ≠ "_" := by simpa using hn
    have hi := ih _ b rfl h2 w
    rw [Op.eqFields, if_pos hn']
    cases a <;> simp_all
theorem run_eq_struct {gs : List (Bool × TypeId × Nat)} {r : Bool} (ht : P.underlying t = some (.struct (P.fieldsOf t))) (hp : P.stoodInHeld t = false) (hf : (P.fieldsOf t).toList.map (fun f => (f.name == "_", f.type, f.offset)) = gs)
    (h : EqFs P d xs ys gs r) (w : World) : (Op.equalIn (d + 1) t (.agg xs) (.agg ys)).run P w = .ok r w := by
  rw [run_equalIn_struct w d t xs ys ht hp]
  exact run_eqFields_of _ gs r hf h w
theorem all_range_vec {n : Nat} (x y : Vector (BitVec 8) n) : ((List.range n).all fun i => B8 (x.getD i 0) == B8 (y.getD i 0)) = (x == y) := by
  rw [Bool.eq_iff_iff]
  simp only [List.all_eq_true, List.mem_range, beq_iff_eq, B8_inj]
  constructor
  · intro h
    apply Vector.ext
    intro i hi
    have := h i hi
    simpa [Vector.getD, hi] using this
  · rintro rfl i _; rfl
theorem run_eq_bytes {t e : TypeId} {n : Nat} (ht : P.underlying t = some (.array n e)) (he : P.underlying e = some (.int .u8)) (hsz : (P.info? e).map (·.size) = some 1)
    (d : Nat) (x y : Vector (BitVec 8) n) (w : World) : (Op.equalIn (d + 2) t (.agg (bArr x)) (.agg (bArr y))).run P w = .ok (x == y) w := by
  have hsz := run_sizeOf_some (P := P) hsz w
  rw [← all_range_vec, List.range_eq_range', Op.equalIn]
  simp only [Sem.run_bind, run_underlying ht, Result.andThen_ok, hsz, Std.Legacy.Range.forIn_eq_forIn_range', Std.Legacy.Range.size, Nat.sub_zero, Nat.add_sub_cancel, Nat.div_one]
  have hl : ∀ i ∈ List.range' 0 n 1, i < n := fun i hi => by simpa using (List.mem_range'_1.1 hi).2
  generalize List.range' 0 n 1 = l at hl ⊢
  induction l with
  | nil => simp
  | cons i l ih =>
    have hi : i < n := hl i (by simp)
    have px : (part e (bArr x) (i * 1)).run P w = .ok (.int .u8 (B8 (x.getD i 0))) w := by
      simp [part, isAgg, run_underlying he, bArr_get x i hi, Vector.getD, hi]
    have py : (part e (bArr y) (i * 1)).run P w = .ok (.int .u8 (B8 (y.getD i 0))) w := by
      simp [part, isAgg, run_underlying he, bArr_get y i hi, Vector.getD, hi]
    have pe : (Op.equalIn (d + 1) e (.int .u8 (B8 (x.getD i 0))) (.int .u8 (B8 (y.getD i 0)))).run P w = .ok (B8 (x.getD i 0) == B8 (y.getD i 0)) w :=
      run_equalIn_int w d e .u8 .u8 _ _ he
    simp only [List.forIn_cons, Sem.run_bind, px, py, pe, Result.andThen_ok, List.all_cons]
    cases hb : (B8 (x.getD i 0) == B8 (y.getD i 0))
    · simp
    · simp only [Bool.not_true, Bool.false_eq_true, if_false, Sem.run_pure, Result.andThen_ok, Bool.true_and]
      exact ih fun j hj => hl j (by simp [hj])
end

/-! ### composites -/
def fillS (place : Nat → Option (Nat × Nat)) (cells : Array Value) : List (Nat × Value) → Option (Array Value)
  | [] => some cells
  | (i, v) :: rest =>
    match place i with
    | none => none
    | some (off, size) => if v.cells.size = size ∧ off + size ≤ cells.size then fillS place (splice cells off v.cells) rest else none
/-- a part laid into its place -/
@[irreducible] def fillV (place : Nat → Option (Nat × Nat)) (cells : Array Value) (at_ : Option (Nat × Nat)) (vs : Array Value) (rest : List (Nat × Value)) : Option (Array Value) :=
  match at_ with
  | none => none
  | some (off, size) => if vs.size = size ∧ off + size ≤ cells.size then fillS place (splice cells off vs) rest else none
theorem fillV_some {place : Nat → Option (Nat × Nat)} {cells : Array Value} {off size : Nat} {vs : Array Value} {rest : List (Nat × Value)} (h1 : vs.size = size) (h2 : off + size ≤ cells.size) : fillV place cells (some (off, size)) vs rest = fillS place (splice cells off vs) rest := by
  unfold fillV
  simp only [h1, h2, and_self, if_true]
theorem fillS_nil (place : Nat → Option (Nat × Nat)) (cells : Array Value) : fillS place cells [] = some cells := rfl
section
variable (place : Nat → Option (Nat × Nat)) (cells : Array Value) (i : Nat) (rest : List (Nat × Value))
theorem fillS_agg (cs : Array Value) : fillS place cells ((i, .agg cs) :: rest) = fillV place cells (place i) cs rest := by unfold fillV; rfl
theorem fillS_int (k : IntKind) (x : Int) : fillS place cells ((i, .int k x) :: rest) = fillV place cells (place i) #[.int k x] rest := by unfold fillV; rfl
theorem fillS_bool (x : Bool) : fillS place cells ((i, .bool x) :: rest) = fillV place cells (place i) #[.bool x] rest := by unfold fillV; rfl
theorem fillS_string (x : ByteArray) : fillS place cells ((i, .string x) :: rest) = fillV place cells (place i) #[.string x] rest := by unfold fillV; rfl
theorem fillS_slice (A : Option Addr) (l c : Nat) : fillS place cells ((i, .slice A l c) :: rest) = fillV place cells (place i) #[.slice A l c] rest := by unfold fillV; rfl
end
attribute [go_sem] fillS_nil fillS_agg fillS_int fillS_bool fillS_string fillS_slice fillV_some
theorem foldl_splice (cells : Array Value) (off : Nat) (vs : List Value) : ∀ (k : Nat), off + k + vs.length ≤ cells.size →
    (vs.zipIdx k).foldl (fun cs (p : Value × Nat) => cs.setIfInBounds (off + p.2) p.1) cells = splice cells (off + k) vs.toArray := by
  induction vs generalizing cells with
  | nil =>
    intro k h
    apply Array.ext_getElem?
    intro i
    rw [splice_get (by simpa using h)]
    simp
    omega
  | cons v vs ih =>
    intro k h
    simp only [List.length_cons] at h
    rw [List.zipIdx_cons, List.foldl_cons, ih _ (k + 1) (by simp; omega)]
    apply Array.ext_getElem?
    intro i
    rw [splice_get (by simp; omega), splice_get (by simp; omega)]
    simp only [List.size_toArray, List.length_cons, List.getElem?_toArray, Array.getElem?_setIfInBounds]
    by_cases h1 : i = off + k
    · subst h1
      rw [if_neg (by omega), if_pos rfl, if_pos (by omega), if_pos (by omega)]; simp
    · by_cases h2 : off + k < i ∧ i < off + k + (vs.length + 1)
      · rw [if_pos (by omega), if_pos (by omega), show i - (off + k) = (i - (off + (k + 1))) + 1 from by omega, List.getElem?_cons_succ]
      · rw [if_neg (by omega), if_neg (by omega), if_neg (by omega)]
theorem fill_of_fillS {place : Nat → Option (Nat × Nat)} : ∀ (ps : List (Nat × Value)) (cells out : Array Value), fillS place cells ps = some out → Instr.fill place cells ps = some out := by
  intro ps
  induction ps with
  | nil => intro cells out h; simpa [fillS, Instr.fill] using h
  | cons p ps ih =>
    obtain ⟨i, v⟩ := p
    intro cells out h
    rw [fillS] at h
    rw [Instr.fill]
    cases hp : place i with
    | none => rw [hp] at h; cases h
    | some q =>
      obtain ⟨off, size⟩ := q
      rw [hp] at h
      simp only at h ⊢
      split at h
      · rename_i hc
        obtain ⟨h1, h2⟩ := hc
        rw [if_neg (by simp; omega)]
        have e := foldl_splice cells off v.cells.toList 0 (by simp; omega)
        have e2 : v.cells.zipIdx.foldl (fun cs (p : Value × Nat) => cs.setIfInBounds (off + p.2) p.1) cells = splice cells off v.cells := by
          rw [← Array.foldl_toList, Array.toList_zipIdx]
          simpa using e
        rw [e2]
        exact ih _ _ h
      · cases h
@[irreducible] def bdRow' (t : TypeId) (ps : Array (Nat × Value)) : Sem Value := Instr.build t ps
theorem run_bdRow {P : Program} {t : TypeId} {fs : Array Field} {z : Value} {places : List (Nat × Nat)} {place : Nat → Option (Nat × Nat)} (hu : P.underlying t = some (.struct fs)) (hz : (P.info? t).bind (·.zero) = some z)
    (hp : fs.toList.mapM (fun f => (P.info? f.type).map fun i => (f.offset, i.size)) = some places) (hpl : ∀ i, places.toArray[i]? = place i) (ps : List (Nat × Value)) (w : World) :
    (bdRow t ps.toArray).run P w = onRow (fillS place z.cells ps) w ((bdRow' t ps.toArray).run P w) := by
  unfold onRow bdRow
  split
  · rename_i cs h
    refine run_build w t ps.toArray cs ?_
    unfold Program.built
    cases hq : P.info? t with
    | none => rw [hq] at hz; cases hz
    | some i =>
      have hz' : i.zero = some z := by simpa [hq] using hz
      simp only [hu, hz', hp]
      rw [show (fun x : Nat => places.toArray[x]?) = place from funext hpl]
      exact fill_of_fillS ps _ _ h
  · unfold bdRow'; rfl

/-! ### slices of composites -/
theorem fillS_list {α : Type} {enc : α → Array Value} {n : Nat} (hk : EncOk enc n) : ∀ (xs : List α) (pre : List α) (rest : List Value), rest.length = xs.length * n →
    fillS (fun i => some (i * n, n)) (flat enc pre ++ rest).toArray ((xs.zipIdx pre.length).map fun p => (p.2, Value.agg (enc p.1))) = some (flat enc (pre ++ xs)).toArray := by
  intro xs
  induction xs with
  | nil =>
    intro pre rest h
    obtain rfl : rest = [] := List.eq_nil_of_length_eq_zero (by simpa using h)
    simp [fillS]
  | cons x xs ih =>
    intro pre rest h
    have hx := hk.size x
    have hp := flat_length hk pre
    have hl : rest.length = n + xs.length * n := by rw [h, List.length_cons, Nat.succ_mul]; omega
    rw [List.zipIdx_cons, List.map_cons, fillS]
    simp only
    rw [if_pos (by
      constructor
      · simpa [Value.cells] using hx
      · simp [hp]; omega)]
    have e : splice (flat enc pre ++ rest).toArray (pre.length * n) (Value.agg (enc x)).cells = (flat enc (pre ++ [x]) ++ rest.drop n).toArray := by
      show splice _ _ (enc x) = _
      unfold splice
      simp only [hx]
      congr 1
      rw [List.take_append_of_le_length (by omega), List.take_of_length_le (by omega), flat_append]
      have : flat enc [x] = (enc x).toList := by simp [flat]
      rw [this]
      congr 1
      rw [List.drop_append, List.drop_eq_nil_of_le (by omega), List.nil_append]
      congr 1
      omega
    rw [e]
    have := ih (pre ++ [x]) (rest.drop n) (by simp; omega)
    simpa using this
theorem run_bsRow_list {α : Type} {enc : α → Array Value} {P : Program} {t e : TypeId} {n bytes : Nat} (hT : SlT P t e n bytes) (hk : EncOk enc n) (xs : List α) (h0 : 0 < xs.length) (hs : xs.length * n ≤ 2 ^ 24) (parts : List (Nat × Value))
    (hp : parts = (xs.zipIdx 0).map fun p => (p.2, Value.agg (enc p.1))) (w : World) :
    (bsRow t xs.length parts.toArray).run P w = .ok (.slice (some ⟨w.heap.size, 0, none⟩) xs.length xs.length) (w.alloc (.cells (flat enc xs).toArray e)) := by
  unfold bsRow
  obtain ⟨ht, i, z, hi, hz, hsz, hb, hzs⟩ := hT
  have hn := hk.pos
  refine run_buildSlice w t e xs.length parts.toArray _ i z ht hi hz (by rw [hsz]; omega) (by rw [hsz]; have := Nat.mul_pos h0 hn; omega) ?_
  rw [hsz]
  refine fill_of_fillS _ _ _ ?_
  subst hp
  have h := fillS_list hk xs [] ((Array.range (xs.length * n)).map (z.cells[· % z.cells.size]!)).toList (by simp)
  rw [flat_nil, List.nil_append, Array.toArray_toList, List.nil_append] at h
  exact h
/-- a new row of elements -/
theorem Sl.made {α : Type} {enc : α → Array Value} {n : Nat} (hk : EncOk enc n) (w : World) (e : TypeId) (fr : Nat × Nat) (xs : List α) (hl : xs.length ≤ maxLen) : Sl enc n (w.alloc (.cells (flat enc xs).toArray e fr)) (.slice (some ⟨w.heap.size, 0, none⟩) xs.length xs.length) xs := by
  refine ⟨some ⟨w.heap.size, 0, none⟩, xs.length, rfl, Nat.le_refl _, hl, fun _ => ⟨w.heap.size, 0, rfl, by simp, fun i hi => ?_⟩⟩
  rw [row_alloc_at _ _ _ _ _ _ _ rfl, Nat.zero_add]
  have hf := flat_length hk xs
  have hle : i * n + n ≤ xs.length * n := by rw [← Nat.succ_mul]; exact Nat.mul_le_mul_right n hi
  unfold rowOf
  rw [if_pos (by simp; omega)]
  congr 1
  apply Array.ext_getElem?
  intro k
  rw [Array.getElem?_extract]
  by_cases hk' : k < n
  · rw [if_pos (by simp; omega), List.getElem?_toArray, flat_get hk xs i k hi hk']
  · have := hk.size xs[i]
    rw [if_neg (by simp; omega), Array.getElem?_eq_none (by omega)]
theorem flat_single {α : Type} (enc : α → Array Value) (x : α) : flat enc [x] = (enc x).toList := by simp [flat]
/-- an element's row -/
theorem SlAt.at {α : Type} {enc : α → Array Value} {n : Nat} {w : World} {b off : Nat} {xs : List α} (h : SlAt enc n w (some ⟨b, off, none⟩) xs) (i : Nat) (hi : i < xs.length) : row? w b (off + i * n) n = some (enc xs[i]) := by
  obtain ⟨b', off', e, _, hr⟩ := h (by omega)
  injection e with e
  injection e with e1 e2
  subst e1 e2
  exact hr i hi
/-- a number as a cell -/
def ie (n : Int) : Array Value := #[.int .i64 n]
theorem ie_ok : EncOk ie 1 := ⟨fun _ => rfl, fun _ => by simp [ie, oneCells, Value.oneCell'], by omega⟩
theorem ie_id (n : Int) (_ : (Lit.int .i64 n).wf = true) : ie n = #[.int .i64 n] := rfl
theorem SlAt.int {w : World} {b off : Nat} {xs : List Int} (h : ∀ i (h : i < xs.length), row? w b (off + i * 1) 1 = some (ie xs[i])) {i : Nat} (hi : i < xs.length) : w.cell? ⟨b, off + i, none⟩ = some (.int .i64 xs[i]) := by
  have := row_cell0 (h i hi) (by omega) (v := .int .i64 xs[i]) rfl
  simpa using this
theorem SlAt.byte' {w : World} {b off : Nat} {xs : List (BitVec 8)} (h : ∀ i (h : i < xs.length), row? w b (off + i * 1) 1 = some (be xs[i])) {i : Nat} (hi : i < xs.length) : w.cell? ⟨b, off + i, none⟩ = some (.int .u8 (B8 xs[i])) := by
  have := row_cell0 (h i hi) (by omega) (v := .int .u8 (B8 xs[i])) rfl
  simpa using this

/-! ### a variable's block, in a world that is not known else -/
def Box (w : World) (g : Nat) (cs : Array Value) (t : TypeId) : Prop := w.heap[g]? = some (.cells cs t (0, 0))
theorem Box.lt {w : World} {g : Nat} {cs : Array Value} {t : TypeId} (h : Box w g cs t) : g < w.heap.size := (Array.getElem?_eq_some_iff.1 h).1
theorem Box.cell {w : World} {g : Nat} {cs : Array Value} {t : TypeId} (h : Box w g cs t) (i : Nat) {v : Value} (hv : cs[i]? = some v) : w.cell? ⟨g, i, none⟩ = some v := by
  rw [cell_of_row w g i cs t (0, 0) h]; exact hv
theorem Box.frozen {w : World} {g : Nat} {cs : Array Value} {t : TypeId} (h : Box w g cs t) (i : Nat) : w.frozen? ⟨g, i, none⟩ = false := frozen_of_row w g i cs t h
theorem Box.row {w : World} {g : Nat} {cs : Array Value} {t : TypeId} (h : Box w g cs t) (off n : Nat) : row? w g off n = rowOf cs off n := row_block h
theorem Box.free {w : World} {g : Nat} {cs : Array Value} {t : TypeId} (h : Box w g cs t) : free? w g = true := by unfold free?; rw [h]; rfl
theorem Box.set {w : World} {g : Nat} {cs : Array Value} {t : TypeId} (h : Box w g cs t) (i : Nat) (v : Value) : Box (w.setCell ⟨g, i, none⟩ v) g (cs.setIfInBounds i v) t := heap_setCell_same w g i cs t v h
theorem Box.put {w : World} {g : Nat} {cs : Array Value} {t : TypeId} (h : Box w g cs t) (o : Nat) (c : Array Value) : Box (putRow w g o c) g (splice cs o c) t := putRow_heap_same h
theorem Box.ext {w w' : World} {g : Nat} {cs : Array Value} {t : TypeId} (h : Box w g cs t) (e : Ext w w') : Box w' g cs t := e.heap h
theorem Box.grown {w w' : World} {g : Nat} {cs : Array Value} {t : TypeId} {row : Option Nat} (h : Box w g cs t) (e : w.grownBy w' row) (hne : some g ≠ row) : Box w' g cs t := (e.block g h.lt hne).trans h
theorem Box.new {w : World} {g : Nat} {cs : Array Value} {t : TypeId} (h : g = w.heap.size) : Box (w.alloc (.cells cs t)) g cs t := by subst h; exact heap_alloc_new w _
theorem Box.past {w : World} {g : Nat} {cs : Array Value} {t : TypeId} (h : Box w g cs t) (o : Obj) : Box (w.alloc o) g cs t := (heap_old w o g h.lt).trans h
theorem Box.drew {w : World} {g : Nat} {cs : Array Value} {t : TypeId} (h : Box w g cs t) : Box w.drew g cs t := h
theorem Box.drewN {w : World} {g : Nat} {cs : Array Value} {t : TypeId} (h : Box w g cs t) (n : Nat) : Box (w.drewN n) g cs t := h
theorem gset {a w : World} {g : Nat} (h : a.grownBy w (some g)) (i : Nat) (v : Value) : a.grownBy (w.setCell ⟨g, i, none⟩ v) (some g) := by
  refine h.trans ⟨rfl, rfl, rfl, by simp [World.setCell], fun k hk hne => heap_setCell_other w _ k v ?_⟩
  intro e; exact hne (by rw [e])
/-- a variable's block as a slice of its elements -/
theorem Sl.box {α : Type} {enc : α → Array Value} {n : Nat} (hk : EncOk enc n) {w : World} {g : Nat} {cs : Array Value} {t : TypeId} {xs : List α} (h : Box w g cs t) (e : cs = (flat enc xs).toArray) (hl : xs.length ≤ maxLen) : Sl enc n w (.slice (some ⟨g, 0, none⟩) xs.length xs.length) xs := by
  subst e
  refine ⟨some ⟨g, 0, none⟩, xs.length, rfl, Nat.le_refl _, hl, fun _ => ⟨g, 0, rfl, h.lt, fun i hi => ?_⟩⟩
  rw [h.row, Nat.zero_add]
  have hf := flat_length hk xs
  have hle : i * n + n ≤ xs.length * n := by rw [← Nat.succ_mul]; exact Nat.mul_le_mul_right n hi
  unfold rowOf
  rw [if_pos (by simp; omega)]
  congr 1
  apply Array.ext_getElem?
  intro k
  rw [Array.getElem?_extract]
  by_cases hk' : k < n
  · rw [if_pos (by simp; omega), List.getElem?_toArray, flat_get hk xs i k hi hk']
  · have := hk.size xs[i]
    rw [if_neg (by simp; omega), Array.getElem?_eq_none (by omega)]
end Go.Proofs.Ytphojngdgmnpaaa

namespace Go.Proofs.Ytphojngdgmnpaaa
open Go Go.RowKit
set_option linter.unusedVariables false
set_option linter.unusedSimpArgs false
set_option maxRecDepth 100000

section
variable {P : Program} {E : Env} {nt : Nat} {ops : Array Oper} {T : Nat → Option AV} {H : Hp} {d : Option Nat} {ty : TypeId} {pos : String} {af : Array Edge} {gd : Option (Nat × Bool)} (tb : Tab P)

/-! ### cuts -/
/-- a bound of a cut: none, or a number -/
def BndA (T : Nat → Option AV) : Option Operand → Nat → Nat → Prop
  | none, d, n => n = d
  | some x, _, n => ∃ k i, evalO T x = some (.v (.int k i)) ∧ i = (n : Int)
theorem bnd_none {d : Nat} : BndA T none d d := rfl
theorem bnd_nat {x : Operand} {k : IntKind} {n d : Nat} (h : evalO T x = some (.v (.int k (n : Nat)))) : BndA T (some x) d n := ⟨k, n, h, rfl⟩
theorem Rdu_drop {U : Uns} {w : World} {n : Nat} {B : Blk} {H : Hp} : ∀ (k : Nat) {xs : List AV} {c : List Value}, Rdu U w n xs B H c → k ≤ xs.length → Rdu U w n (xs.drop k) B H (c.drop (k * n))
  | 0, xs, c, h, _ => by simpa using h
  | k + 1, [], c, h, hk => by simp at hk
  | k + 1, x :: xs, c, h, hk => by
    simp only [Rdu] at h
    obtain ⟨c1, c2, rfl, hn, _, h2⟩ := h
    rw [List.drop_succ_cons]
    have := Rdu_drop k h2 (by simpa using hk)
    rw [Nat.succ_mul, Nat.add_comm, ← hn, List.drop_append]
    have e : c1.length + k * c1.length - c1.length = k * n := by rw [hn]; omega
    have e0 : c1.drop (c1.length + k * c1.length) = [] := List.drop_eq_nil_of_le (by omega)
    rw [e0, List.nil_append, e, hn]
    exact this
theorem Rdu_take {U : Uns} {w : World} {n : Nat} {B : Blk} {H : Hp} : ∀ (k : Nat) {xs : List AV} {c : List Value}, Rdu U w n xs B H c → Rdu U w n (xs.take k) B H (c.take (k * n))
  | 0, xs, c, h => by simp [Rdu]
  | k + 1, [], c, h => by simp only [Rdu] at h; subst h; simp [Rdu]
  | k + 1, x :: xs, c, h => by
    simp only [Rdu] at h
    obtain ⟨c1, c2, rfl, hn, h1, h2⟩ := h
    rw [List.take_succ_cons]
    simp only [Rdu]
    refine ⟨c1, c2.take (k * n), ?_, hn, h1, Rdu_take k h2⟩
    rw [Nat.succ_mul, Nat.add_comm, ← hn, List.take_append, List.take_of_length_le (by omega)]
    congr 2
    omega
theorem bound_run {w : World} {k : IntKind} {i : Int} {n y : Nat} {c : BoundsCode} (hi : i = (n : Int)) (h : n ≤ y) : (Instr.sliceBound (.int k i) y c).run P w = .ok n w := by
  subst hi
  have h0 : (0 : Int) ≤ (n : Int) ∧ (n : Int) ≤ (y : Int) := by omega
  simp [Instr.sliceBound, asIntOf, h0]
theorem bounds_run {B : Blk} {T' : Nat → Option AV} {H' : Hp} {a : Act} {w : World} (r : Rel E nt B T' H' a w) {isS : Bool} {len cap l h m : Nat} {lo hi mx : Option Operand} (hlo : BndA T' lo 0 l) (hhi : BndA T' hi len h) (hmx : BndA T' mx cap m) (hm0 : mx.isSome = true → hi.isSome = true) (h1 : l ≤ h) (h2 : h ≤ m) (h3 : m ≤ cap) :
    (Instr.sliceBounds isS len cap (lo.map a.eval) (hi.map a.eval) (mx.map a.eval)).run P w = .ok (l, h, m) w := by
  have ev : ∀ {x : Operand} {k : IntKind} {i : Int}, evalO T' x = some (.v (.int k i)) → a.eval x = .int k i := fun h => r.evalv h
  cases mx with
  | none =>
    obtain rfl : m = cap := hmx
    cases hi with
    | none =>
      obtain rfl : h = len := hhi
      cases lo with
      | none => obtain rfl : l = 0 := hlo; simp [Instr.sliceBounds]
      | some x =>
        obtain ⟨k, i, e1, e2⟩ := hlo
        simp [Instr.sliceBounds, ev e1, bound_run e2 h1]
    | some y =>
      obtain ⟨k, i, e1, e2⟩ := hhi
      cases lo with
      | none => obtain rfl : l = 0 := hlo; simp [Instr.sliceBounds, ev e1, bound_run e2 h2]
      | some x =>
        obtain ⟨k', i', e3, e4⟩ := hlo
        simp [Instr.sliceBounds, ev e1, ev e3, bound_run e2 h2, bound_run e4 h1]
  | some z =>
    cases hi with
    | none => simp at hm0
    | some y =>
      obtain ⟨k, i, e1, e2⟩ := hhi
      obtain ⟨k'', i'', e5, e6⟩ := hmx
      cases lo with
      | none => obtain rfl : l = 0 := hlo; simp [Instr.sliceBounds, ev e1, ev e5, bound_run e2 h2, bound_run e6 h3]
      | some x =>
        obtain ⟨k', i', e3, e4⟩ := hlo
        simp [Instr.sliceBounds, ev e1, ev e3, ev e5, bound_run e2 h2, bound_run e4 h1, bound_run e6 h3]
theorem bnd_agree {T' : Nat → Option AV} {o : Option Operand} {d n : Nat} (h : BndA T o d n) (ht : ∀ y ∈ o.toList, evalO T' y = evalO T y) : BndA T' o d n := by
  cases o with
  | none => exact h
  | some x =>
    obtain ⟨k, i, h1, h2⟩ := h
    exact ⟨k, i, (ht x (by simp)).trans h1, h2⟩
/-- a cut of a slice, within its length -/
theorem ok_cut {t e : TypeId} {es bytes : Nat} {ea : Bool} {x : Operand} {lo hi mx : Option Operand} {tok : Option Nat} {xs : List AV} {l h m : Nat} (hd : dOk nt d = true) (hs : tb.ti t = some (.sl e es bytes ea)) (hx : evalO T x = some (.sl tok es xs)) (hlo : BndA T lo 0 l) (hhi : BndA T hi xs.length h)
    (hmx : (mx = none ∧ m = 0) ∨ BndA T mx 0 m ∧ h ≤ m ∧ m ≤ xs.length ∧ mx.isSome = true ∧ hi.isSome = true) (h1 : l ≤ h) (h2 : h ≤ xs.length) :
    OpOK P E nt ops ⟨d, .slice t x lo hi mx, ty, pos, af, gd⟩ T H [] ⟨.sl none es ((xs.take h).drop l), []⟩ :=
  ok_val hd fun B T' H' a w r ht hh => by
    have hr := Rdv_one (by simp) (r.eval ((ht x (by simp [Op.operands])).trans hx)) rfl
    simp only [Rd] at hr
    obtain ⟨A, cap, k1, k2, k3, k4, _⟩ := hr
    injection k1 with k1
    obtain ⟨_, hu, he, _⟩ := tb.ok t _ hs
    have hz := run_sizeOf_of he w
    have hlo' := bnd_agree hlo (T' := T') (fun y hy => ht y (by simp only [Op.operands]; simp; simp at hy; exact .inr (.inl hy)))
    have hhi' := bnd_agree hhi (T' := T') (fun y hy => ht y (by simp only [Op.operands]; simp; simp at hy; exact .inr (.inr (.inl hy))))
    obtain ⟨M, hM, hM2⟩ : ∃ M, (Instr.sliceBounds true xs.length cap (lo.map a.eval) (hi.map a.eval) (mx.map a.eval)).run P w = .ok (l, h, M) w ∧ h ≤ M ∧ M ≤ cap := by
      rcases hmx with ⟨rfl, _⟩ | ⟨b1, b2, b3, b4, b5⟩
      · exact ⟨cap, bounds_run r hlo' hhi' (show BndA T' none cap cap from rfl) (by simp) h1 (by omega) (Nat.le_refl _), by omega, Nat.le_refl _⟩
      · have hmx' := bnd_agree b1 (T' := T') (fun y hy => ht y (by simp only [Op.operands]; simp; simp at hy; exact .inr (.inr (.inr hy))))
        refine ⟨m, bounds_run r hlo' hhi' ?_ (fun _ => b5) h1 b2 (by omega), b2, by omega⟩
        cases mx with
        | none => simp at b4
        | some z => exact hmx'
    refine ⟨.slice (if M = l then A else A.map (·.add (l * es))) (h - l) (M - l), ?_, ?_⟩
    · simp [execOp, k1, Instr.sliceAt, run_underlying hu, Instr.slice, hM, hz]
    · rw [Rdv_not (by simp)]
      refine ⟨[_], ?_, rfl⟩
      simp only [Rd]
      have hlen : ((xs.take h).drop l).length = h - l := by rw [List.length_drop, List.length_take]; omega
      refine ⟨_, M - l, by rw [hlen], by rw [hlen]; omega, by omega, fun h0 => ?_, fun t ht => by cases ht⟩
      rw [hlen] at h0
      obtain ⟨b, off, c, rfl, q1, q2, q3⟩ := k4 (by omega)
      have hcl := Rdu_len q3
      have e1 : l * es + (h - l) * es = h * es := by rw [← Nat.add_mul]; congr 1; omega
      have e2 : h * es ≤ xs.length * es := Nat.mul_le_mul_right _ h2
      refine ⟨b, off + l * es, (c.take (h * es)).drop (l * es), ?_, ?_, fun o o1 o2 => q2 o (by omega) (by rw [hlen] at o2; omega), Rdu_drop l (Rdu_take h q3) (by rw [List.length_take]; omega)⟩
      · rw [if_neg (by omega)]
        simp [add_lit]
      · rw [hlen, row_sub q1 (l * es) ((h - l) * es) (by omega)]
        unfold rowOf
        rw [if_pos (by simp [hcl]; omega)]
        congr 1
        apply Array.ext'
        simp only [Array.toList_extract, List.extract_eq_take_drop]
        rw [List.drop_take]
        congr 1
        omega
/-- an array in a variable, as a slice from its head on -/
theorem ok_cut_arr {t e : TypeId} {tn len es : Nat} {ea : Bool} {x : Operand} {hi : Option Operand} {g off : Nat} {p : List Nat} {h : Nat} (hd : dOk nt d = true) (hs : tb.ti t = some (.arr tn (len + 1) es ea e)) (hx : evalO T x = some (.ptr g off p)) (hhi : BndA T hi (len + 1) h) (h2 : h ≤ len + 1) (hl : len < 9223372036854775807) :
    OpOK P E nt ops ⟨d, .slice t x none hi none, ty, pos, af, gd⟩ T H [] ⟨.seg g off es p h (len + 1), []⟩ :=
  ok_val hd fun B T' H' a w r ht hh => by
    have hr := Rdv_one (by simp) (r.eval ((ht x (by simp [Op.operands])).trans hx)) rfl
    simp only [Rd] at hr
    obtain ⟨hv, b, k1, k2⟩ := hr
    injection k2 with k2
    obtain ⟨_, hu, he⟩ := tb.ok t _ hs
    have hz := run_sizeOf_of he w
    have hhi' := bnd_agree hhi (T' := T') (fun y hy => ht y (by simp only [Op.operands]; simp; simp at hy; exact .inr hy))
    have hM := bounds_run (P := P) (isS := false) (len := len + 1) (cap := len + 1) r (show BndA T' none 0 0 from rfl) hhi' (show BndA T' none (len + 1) (len + 1) from rfl) (by simp) (Nat.zero_le _) h2 (Nat.le_refl _)
    refine ⟨.slice (some ⟨b, off, none⟩) h (len + 1), ?_, ?_⟩
    · simp at hM
      simp [execOp, k2, Instr.sliceAt, run_underlying hu, Instr.sureAddr, hM, hz, Addr.add]
    · rw [Rdv_not (by simp)]
      exact ⟨[_], by simp only [Rd]; exact ⟨hv, b, k1, by unfold maxLen; omega, h2, rfl⟩, rfl⟩
/-! ### composites -/
def partsA (T : Nat → Option AV) : List (Nat × Operand) → Option (List (Nat × AV))
  | [] => some []
  | (i, x) :: l => match evalO T x, partsA T l with
    | some v, some vs => bif notTup v then some ((i, v) :: vs) else none
    | _, _ => none
def fillA : List (Nat × AV) → List AV → Option (List AV)
  | [], zs => some zs
  | (i, v) :: l, zs => match zs[i]? with
    | some z => bif Nat.beq (sizeA v) (sizeA z) then fillA l (zs.set i v) else none
    | none => none
theorem parts_agree {T' : Nat → Option AV} : ∀ {l : List (Nat × Operand)} {vs : List (Nat × AV)}, partsA T l = some vs → (∀ p ∈ l, evalO T' p.2 = evalO T p.2) → partsA T' l = some vs
  | [], vs, h, _ => h
  | (i, x) :: l, vs, h, ht => by
    simp only [partsA] at h ⊢
    rw [ht (i, x) (by simp)]
    cases hx : evalO T x with
    | none => rw [hx] at h; cases h
    | some v =>
      rw [hx] at h
      cases hl : partsA T l with
      | none => rw [hl] at h; cases h
      | some us => rw [hl] at h; rw [parts_agree hl (fun p hp => ht p (List.mem_cons_of_mem _ hp))]; exact h
theorem fill_rds {B : Blk} {T' : Nat → Option AV} {H' : Hp} {a : Act} {w : World} (r : Rel E nt B T' H' a w) {place : Nat → Option (Nat × Nat)} : ∀ (l : List (Nat × Operand)) (vs : List (Nat × AV)) (zs out : List AV) (cells : List Value), partsA T' l = some vs → fillA vs zs = some out →
    (∀ i z, zs[i]? = some z → place i = some (sumS (zs.take i), sizeA z)) → Rds (unst E B H') w zs B H' cells →
    ∃ cells', fillS place cells.toArray (l.map fun p => (p.1, a.eval p.2)) = some cells'.toArray ∧ Rds (unst E B H') w out B H' cells'
  | [], vs, zs, out, cells, h1, h2, _, h4 => by
    simp only [partsA, Option.some.injEq] at h1
    subst h1
    simp only [fillA, Option.some.injEq] at h2
    subst h2
    exact ⟨cells, rfl, h4⟩
  | (i, x) :: l, vs, zs, out, cells, h1, h2, h3, h4 => by
    simp only [partsA] at h1
    cases hx : evalO T' x with
    | none => rw [hx] at h1; cases h1
    | some v =>
      rw [hx] at h1
      cases hl : partsA T' l with
      | none => rw [hl] at h1; cases h1
      | some us =>
        rw [hl] at h1
        cases hnt : notTup v with
        | false => simp [hnt] at h1
        | true =>
          simp only [hnt, cond_true, Option.some.injEq] at h1
          subst h1
          simp only [fillA] at h2
          cases hz : zs[i]? with
          | none => rw [hz] at h2; cases h2
          | some z =>
            rw [hz] at h2
            cases hb : Nat.beq (sizeA v) (sizeA z) with
            | false => simp [hb] at h2
            | true =>
              simp only [hb, cond_true] at h2
              have hsz := Nat.eq_of_beq_eq_true hb
              have hv := r.eval hx
              rw [Rdv_not (notTup_ne hnt)] at hv
              obtain ⟨c', k1, k2⟩ := hv
              obtain ⟨c1, c2, c3, rfl, m1, m2, m3⟩ := Rds_at h4 hz
              have hl' : c'.length = c2.length := by rw [Rd_len k1, Rd_len m2, hsz]
              have hset := m3 v c' k1
              have hplace : ∀ j y, (zs.set i v)[j]? = some y → place j = some (sumS ((zs.set i v).take j), sizeA y) := by
                intro j y hj
                have hsum : ∀ j, sumS ((zs.set i v).take j) = sumS (zs.take j) := by
                  intro j
                  clear h2 h3 h4 hset m3 m1 k1 m2 hl' hj
                  induction zs generalizing i j with
                  | nil => simp
                  | cons q zs ih =>
                    cases i with
                    | zero =>
                      simp at hz; subst hz
                      cases j <;> simp [sumS, hsz]
                    | succ i =>
                      cases j with
                      | zero => simp
                      | succ j => simp [sumS, ih i (by simpa using hz) j]
                rw [hsum]
                by_cases hij : i = j
                · subst hij
                  have hlt : i < zs.length := (List.getElem?_eq_some_iff.1 hz).1
                  rw [List.getElem?_set_self hlt] at hj
                  injection hj with hj
                  subst hj
                  rw [hsz]; exact h3 i z hz
                · rw [List.getElem?_set_ne hij] at hj
                  exact h3 j y hj
              obtain ⟨cells', q1, q2⟩ := fill_rds r l us (zs.set i v) out _ hl h2 hplace hset
              refine ⟨cells', ?_, q2⟩
              simp only [List.map_cons, fillS]
              rw [h3 i z hz]
              have hc : (a.eval x).cells = c'.toArray := by rw [k2]; exact pack_cells k1
              simp only [hc]
              rw [if_pos ⟨by simp [hl', Rd_len m2], by rw [← m1, ← Rd_len m2]; simp <;> omega⟩, ← m1, splice_mid hl']
              exact q1
theorem mapM_places {P : Program} : ∀ (F : List Field) (fs : List (Nat × Nat × Bool)), FOk P (F.map fun f => (f.offset, f.type)) fs → F.mapM (fun f => (P.info? f.type).map fun i => (f.offset, i.size)) = some (fs.map fun x => (x.1, x.2.1))
  | [], [], _ => rfl
  | f :: F, (o, s, g) :: fs, h => by
    obtain ⟨h1, ⟨_, _, _, h2⟩, h3⟩ := h
    have ih := mapM_places F fs h3
    have h2' : (P.info? f.type).map (fun i => (f.offset, i.size)) = some (f.offset, s) := by
      cases hi : P.info? f.type with
      | none => rw [hi] at h2; cases h2
      | some i => rw [hi] at h2; simp at h2; simp [h2]
    simp only [List.mapM_cons, h2', ih, List.map_cons, ← h1]
    rfl
  | [], _ :: _, h => h.elim
  | _ :: _, [], h => h.elim
/-- places, from the parts' sizes -/
def placesOk : Nat → List AV → List (Nat × Nat × Bool) → Bool
  | _, [], [] => true
  | o, z :: zs, (o', s, _) :: fs => Nat.beq o o' && Nat.beq s (sizeA z) && placesOk (o + s) zs fs
  | _, _, _ => false
theorem placesOk_at : ∀ {o : Nat} {zs : List AV} {fs : List (Nat × Nat × Bool)}, placesOk o zs fs = true → ∀ i z, zs[i]? = some z → (fs.map fun x => (x.1, x.2.1))[i]? = some (o + sumS (zs.take i), sizeA z)
  | o, [], [], _, i, z, h => by simp at h
  | o, y :: zs, (o', s, g) :: fs, hk, i, z, h => by
    simp only [placesOk, Bool.and_eq_true] at hk
    obtain ⟨⟨h1, h2⟩, h3⟩ := hk
    have e1 := Nat.eq_of_beq_eq_true h1
    have e2 := Nat.eq_of_beq_eq_true h2
    cases i with
    | zero => simp at h; subst h; simp [sumS, e1, e2]
    | succ i =>
      have := placesOk_at h3 i z (by simpa using h)
      simp only [List.map_cons, List.getElem?_cons_succ, this, List.take_succ_cons, sumS, Option.some.injEq, Prod.mk.injEq, and_true]
      omega
  | _, [], _ :: _, h, _, _, _ => by simp [placesOk] at h
  | _, _ :: _, [], h, _, _, _ => by simp [placesOk] at h
theorem ok_build {t n : Nat} {fs : List (Nat × Nat × Bool)} {l : List (Nat × Operand)} {vs : List (Nat × AV)} {zs out : List AV} (hd : dOk nt d = true) (hs : tb.ti t = some (.st n fs)) (hz : ZeroOk P t (.agg n zs)) (hv : partsA T l = some vs) (ho : fillA vs zs = some out) (hp : placesOk 0 zs fs = true) :
    OpOK P E nt ops ⟨d, .build t l.toArray, ty, pos, af, gd⟩ T H [] ⟨.agg n out, []⟩ :=
  ok_val hd fun B T' H' a w r ht hh => by
    obtain ⟨⟨_, hu0, _, _⟩, F, hu, hF⟩ := tb.ok t _ hs
    obtain ⟨i, zv, z1, z2, z3⟩ := hz
    have hzr := Rd_free (B := B) (H := H') _ (z3 (unst E B H') w)
    simp only [Rd] at hzr
    have hv' := parts_agree hv (T' := T') (fun p hp => ht p.2 (by simp [Op.operands]; exact ⟨p.1, hp⟩))
    obtain ⟨cells', q1, q2⟩ := fill_rds r l vs zs out _ hv' ho (place := fun i => (fs.map fun x => (x.1, x.2.1))[i]?) (fun i z h => by have := placesOk_at hp i z h; simpa using this) hzr.2
    have hb : P.built t (l.map fun p => (p.1, a.eval p.2)) = some cells'.toArray := by
      unfold Program.built
      simp only [z1, hu, z2, mapM_places _ _ hF]
      have := fill_of_fillS _ _ _ q1
      simp only [List.getElem?_toArray]
      simpa using this
    have hlen : cells'.length = n := by
      have e1 := hzr.1
      have : ∀ {zs : List AV} {c : List Value}, Rds (unst E B H') w zs B H' c → c.length = sumS zs := by
        intro zs
        induction zs with
        | nil => intro c h; simp only [Rds] at h; subst h; rfl
        | cons z zs ih => intro c h; simp only [Rds] at h; obtain ⟨c1, c2, rfl, k1, k2⟩ := h; simp [sumS, Rd_len k1, ih k2]
      rw [this q2, ← e1, this hzr.2]
      clear q1 q2 hv hv' hb hzr hp z3
      induction vs generalizing zs with
      | nil => simp only [fillA, Option.some.injEq] at ho; rw [ho]
      | cons p vs ih =>
        obtain ⟨j, v⟩ := p
        simp only [fillA] at ho
        cases hz : zs[j]? with
        | none => rw [hz] at ho; cases ho
        | some z =>
          rw [hz] at ho
          cases hb : Nat.beq (sizeA v) (sizeA z) with
          | false => simp [hb] at ho
          | true =>
            simp only [hb, cond_true] at ho
            rw [ih ho]
            have hsz := Nat.eq_of_beq_eq_true hb
            clear ih ho
            induction zs generalizing j with
            | nil => simp at hz
            | cons q zs ih2 =>
              cases j with
              | zero => simp at hz; subst hz; simp [sumS, hsz]
              | succ j => simp [sumS, ih2 j (by simpa using hz)]
    refine ⟨.agg cells'.toArray, ?_, ?_⟩
    · have hrb := run_build (P := P) w t (l.map fun p => (p.1, a.eval p.2)).toArray cells'.toArray (by simpa using hb)
      simp only [execOp]
      have hm : (Array.map (fun x => (x.1, a.eval x.2)) l.toArray) = (l.map fun p => (p.1, a.eval p.2)).toArray := by simp
      simp only [hm, Sem.run_bind, hrb]
      rfl
    · rw [Rdv_not (by simp)]
      exact ⟨cells', by simp only [Rd]; exact ⟨hlen, q2⟩, rfl⟩
end
end Go.Proofs.Ytphojngdgmnpaaa

namespace Go.Proofs.Ytphojngdgmnpaaa
open Go Go.RowKit
set_option linter.unusedVariables false
set_option linter.unusedSimpArgs false
set_option maxRecDepth 100000

section
variable {P : Program} {E : Env} {nt : Nat} {ops : Array Oper} {l : List Oper} {T : List (Nat × AV)} {H : List (Nat × Bx)} {rs : List Rec} {K : St → List Rec → Prop} {op : Op} {ty : TypeId} {pos : String} {af : Array Edge} {gd : Option (Nat × Bool)} {d : Nat} {rh : List Nat}
theorem want_n {T : Nat → Option AV} {d : Option Nat} : wantedA ops ⟨d, op, ty, pos, af, none⟩ T = some true := rfl
theorem want_g {T : Nat → Option AV} {d : Option Nat} {j : Nat} {b c : Bool} (h : ((ops[j]?).bind (·.dst)).bind T = some (.v (.bool c))) (hc : c = b) : wantedA ops ⟨d, op, ty, pos, af, some (j, b)⟩ T = some true := by
  subst hc; unfold wantedA; simp [h]
theorem want_f {T : Nat → Option AV} {d : Option Nat} {j : Nat} {b c : Bool} (h : ((ops[j]?).bind (·.dst)).bind T = some (.v (.bool c))) (hc : c = !b) : wantedA ops ⟨d, op, ty, pos, af, some (j, b)⟩ T = some false := by
  subst hc; unfold wantedA; simp [h]
theorem Wend (S : St) (h : K S rs) : AWops P E nt ops [] S rs K := h
theorem Wv {v : AV} (hok : OpOK P E nt ops ⟨some d, op, ty, pos, af, gd⟩ (St.t ⟨T, H⟩) (St.h ⟨T, H⟩) rh ⟨v, []⟩) (hw : wantedA ops ⟨some d, op, ty, pos, af, gd⟩ (St.t ⟨T, H⟩) = some true)
    (h : AWops P E nt ops l ⟨(d, v) :: T, H⟩ (rs ++ [⟨rh, []⟩]) K) : AWops P E nt ops (⟨some d, op, ty, pos, af, gd⟩ :: l) ⟨T, H⟩ rs K := ⟨⟨T, H⟩, ⟨rfl, rfl⟩, .inl ⟨hw, rh, _, hok, h⟩⟩
theorem Wb {v : AV} {g : Nat} {b : Bx} (hok : OpOK P E nt ops ⟨some d, op, ty, pos, af, gd⟩ (St.t ⟨T, H⟩) (St.h ⟨T, H⟩) rh ⟨v, [(g, b)]⟩) (hw : wantedA ops ⟨some d, op, ty, pos, af, gd⟩ (St.t ⟨T, H⟩) = some true)
    (h : AWops P E nt ops l ⟨(d, v) :: T, (g, b) :: H⟩ (rs ++ [⟨rh, [g]⟩]) K) : AWops P E nt ops (⟨some d, op, ty, pos, af, gd⟩ :: l) ⟨T, H⟩ rs K := ⟨⟨T, H⟩, ⟨rfl, rfl⟩, .inl ⟨hw, rh, _, hok, h⟩⟩
theorem Ws {v : AV} {g : Nat} {b : Bx} (hok : OpOK P E nt ops ⟨none, op, ty, pos, af, gd⟩ (St.t ⟨T, H⟩) (St.h ⟨T, H⟩) rh ⟨v, [(g, b)]⟩) (hw : wantedA ops ⟨none, op, ty, pos, af, gd⟩ (St.t ⟨T, H⟩) = some true)
    (h : AWops P E nt ops l ⟨T, (g, b) :: H⟩ (rs ++ [⟨rh, [g]⟩]) K) : AWops P E nt ops (⟨none, op, ty, pos, af, gd⟩ :: l) ⟨T, H⟩ rs K := ⟨⟨T, H⟩, ⟨rfl, rfl⟩, .inl ⟨hw, rh, _, hok, h⟩⟩
/-- an operation that is guarded off -/
theorem Wskip (hw : wantedA ops ⟨some d, op, ty, pos, af, gd⟩ (St.t ⟨T, H⟩) = some false) (hd : dOk nt (some d) = true)
    (h : AWops P E nt ops l ⟨(d, .tup []) :: T, H⟩ (rs ++ [⟨[], []⟩]) K) : AWops P E nt ops (⟨some d, op, ty, pos, af, gd⟩ :: l) ⟨T, H⟩ rs K := ⟨⟨T, H⟩, ⟨rfl, rfl⟩, .inr ⟨hw, hd, h⟩⟩
/-- a slot, in other words -/
theorem Was (s : Nat) (y : AV) (hs : look s T = some y) {o : Oper} (h : AWops P E nt ops (o :: l) ⟨(s, y) :: T, H⟩ rs K) : AWops P E nt ops (o :: l) ⟨T, H⟩ rs K := by
  obtain ⟨S, ⟨h1, h2⟩, h3⟩ := h
  refine ⟨S, ⟨h1.trans ?_, h2⟩, h3⟩
  show (fun k => look k ((s, y) :: T)) = fun k => look k T
  rw [look_cons]
  exact upd_eta hs
/-- a test that is known: its slot says so -/
theorem Wtest (s : Nat) (b : Bool) {c : Bool} (hs : look s T = some (.v (.bool c))) (hc : c = b) {o : Oper} (h : AWops P E nt ops (o :: l) ⟨(s, .v (.bool b)) :: T, H⟩ rs K) : AWops P E nt ops (o :: l) ⟨T, H⟩ rs K := by
  subst hc
  obtain ⟨S, ⟨h1, h2⟩, h3⟩ := h
  refine ⟨S, ⟨h1.trans ?_, h2⟩, h3⟩
  show (fun k => look k ((s, AV.v (.bool c)) :: T)) = fun k => look k T
  rw [look_cons]
  exact upd_eta hs
end

/-! ### states that say less -/
mutual
/-- which boxes a value names -/
def namesA : AV → List Nat
  | .v _ => []
  | .agg _ fs => namesL fs
  | .arr _ _ _ => []
  | .ptr g _ _ => [g]
  | .ref _ => []
  | .sl none _ _ => []
  | .sl (some t) _ _ => [t]
  | .seg g _ _ _ _ _ => [g]
  | .tup vs => namesL vs
  | .fn _ a b => namesL a ++ namesL b
  | .ifc _ x => namesA x
  | .own g _ _ _ => [g]
def namesL : List AV → List Nat
  | [] => []
  | x :: l => namesA x ++ namesL l
end
section
variable {U : Uns} {w : World} {B B' : Blk} {H H' : Hp}
mutual
theorem Rd_names : ∀ (x : AV), (∀ g ∈ namesA x, H' g = H g ∧ B' g = B g) → ∀ {cs : List Value}, Rd U w x B H cs → Rd U w x B' H' cs
  | .v x, _, _, h => by simpa [Rd] using h
  | .agg n fs, d, _, h => by
    simp only [Rd] at h ⊢
    exact ⟨h.1, Rds_names fs (by simpa [namesA] using d) h.2⟩
  | .arr m n xs, _, _, h => by simpa [Rd] using h
  | .ref x, _, _, h => by simpa [Rd] using h
  | .sl none n xs, _, _, h => by simpa [Rd] using h
  | .sl (some t) n xs, d, _, h => by
    simp only [Rd] at h ⊢
    obtain ⟨A, cap, h1, h2, h3, h4, h5⟩ := h
    refine ⟨A, cap, h1, h2, h3, h4, fun t' ht => ?_⟩
    injection ht with ht
    subst ht
    obtain ⟨k1, k2⟩ := d t (by simp [namesA])
    unfold TokOk
    rw [k1, k2]
    exact h5 t rfl
  | .ptr g _ _, d, _, h => by
    simp only [Rd] at h ⊢
    obtain ⟨k1, k2⟩ := d g (by simp [namesA])
    rw [k1, k2]; exact h
  | .seg g _ _ _ _ _, d, _, h => by
    simp only [Rd] at h ⊢
    obtain ⟨k1, k2⟩ := d g (by simp [namesA])
    rw [k1, k2]; exact h
  | .tup _, _, _, h => by simp [Rd] at h
  | .fn f a b, d, _, h => by
    simp only [Rd] at h ⊢
    simp only [namesA, List.mem_append] at d
    obtain ⟨c1, c2, h1, h2, h3⟩ := h
    exact ⟨c1, c2, h1, Rdp_names a (fun g hg => d g (.inl hg)) h2, Rdp_names b (fun g hg => d g (.inr hg)) h3⟩
  | .ifc t x, d, _, h => by
    simp only [Rd] at h ⊢
    obtain ⟨c, h1, h2⟩ := h
    exact ⟨c, Rd_names x (by simpa [namesA] using d) h1, h2⟩
  | .own g _ _ _, d, _, h => by
    simp only [Rd] at h ⊢
    obtain ⟨k1, k2⟩ := d g (by simp [namesA])
    unfold OwnOk at h ⊢
    rw [k1, k2]; exact h
theorem Rds_names : ∀ (xs : List AV), (∀ g ∈ namesL xs, H' g = H g ∧ B' g = B g) → ∀ {cs : List Value}, Rds U w xs B H cs → Rds U w xs B' H' cs
  | [], _, _, h => by simpa [Rds] using h
  | x :: xs, d, _, h => by
    simp only [Rds] at h ⊢
    simp only [namesL, List.mem_append] at d
    obtain ⟨c1, c2, h1, h2, h3⟩ := h
    exact ⟨c1, c2, h1, Rd_names x (fun g hg => d g (.inl hg)) h2, Rds_names xs (fun g hg => d g (.inr hg)) h3⟩
theorem Rdp_names : ∀ (xs : List AV), (∀ g ∈ namesL xs, H' g = H g ∧ B' g = B g) → ∀ {cs : List Value}, Rdp U w xs B H cs → Rdp U w xs B' H' cs
  | [], _, _, h => by simpa [Rdp] using h
  | x :: xs, d, _, h => by
    simp only [Rdp] at h ⊢
    simp only [namesL, List.mem_append] at d
    obtain ⟨c, vs, h1, h2, h3⟩ := h
    exact ⟨c, vs, h1, Rd_names x (fun g hg => d g (.inl hg)) h2, Rdp_names xs (fun g hg => d g (.inr hg)) h3⟩
end
theorem Rdv_names {x : AV} {v : Value} (d : ∀ g ∈ namesA x, H' g = H g ∧ B' g = B g) (h : Rdv U w B H x v) : Rdv U w B' H' x v := by
  rcases isTup x with ⟨xs, rfl⟩ | hx
  · rw [Rdv_tup] at h ⊢
    obtain ⟨vs, h1, h2⟩ := h
    exact ⟨vs, h1, Rdp_names xs (by simpa [namesA] using d) h2⟩
  · rw [Rdv_not hx] at h ⊢
    obtain ⟨c, h1, h2⟩ := h
    exact ⟨c, Rd_names x d h1, h2⟩
end
def boxNames : Bx → List Nat
  | .var x => namesA x
  | .froz x => namesA x
  | .tail _ _ _ => []
  | .own _ _ _ => []
/-- S' says of fewer slots and boxes what S says -/
def SubT (T : List (Nat × AV)) (H' : List (Nat × Bx)) : List (Nat × AV) → Prop
  | [] => True
  | (s, x) :: l => look s T = some x ∧ (namesA x).all (fun g => (look g H').isSome) = true ∧ SubT T H' l
def SubH (H H' : List (Nat × Bx)) : List (Nat × Bx) → Prop
  | [] => True
  | (s, x) :: l => look s H = some x ∧ (boxNames x).all (fun g => (look g H').isSome) = true ∧ SubH H H' l
/-- the boxes handed in stay -/
def SubK (H H' : List (Nat × Bx)) : Bool := H.all fun p => Nat.blt p.1 1000 || (look p.1 H').isSome
def Sub (S S' : St) : Prop := SubT S.T S'.H S'.T ∧ SubH S.H S'.H S'.H ∧ SubK S.H S'.H = true
theorem SubT.all {T : List (Nat × AV)} {H' : List (Nat × Bx)} : ∀ {l : List (Nat × AV)}, SubT T H' l → ∀ p ∈ l, look p.1 T = some p.2 ∧ (namesA p.2).all (fun g => (look g H').isSome) = true
  | [], _, p, h => by cases h
  | (s, x) :: l, ⟨h1, h2, h3⟩, p, h => by
    rcases List.mem_cons.1 h with rfl | h
    · exact ⟨h1, h2⟩
    · exact h3.all p h
theorem SubH.all {H H' : List (Nat × Bx)} : ∀ {l : List (Nat × Bx)}, SubH H H' l → ∀ p ∈ l, look p.1 H = some p.2 ∧ (boxNames p.2).all (fun g => (look g H').isSome) = true
  | [], _, p, h => by cases h
  | (s, x) :: l, ⟨h1, h2, h3⟩, p, h => by
    rcases List.mem_cons.1 h with rfl | h
    · exact ⟨h1, h2⟩
    · exact h3.all p h
theorem look_mem {α : Type} : ∀ {l : List (Nat × α)} {k : Nat} {v : α}, look k l = some v → (k, v) ∈ l
  | [], _, _, h => by cases h
  | (j, u) :: l, k, v, h => by
    simp only [look] at h
    cases hb : Nat.beq j k
    · rw [hb] at h; exact List.mem_cons_of_mem _ (look_mem h)
    · rw [hb] at h
      simp only [cond_true, Option.some.injEq] at h
      rw [← Nat.eq_of_beq_eq_true hb, h]; exact List.mem_cons_self
theorem Sub.rel {E : Env} {nt : Nat} {S S' : St} (h : Sub S S') {B : Blk} {a : Act} {w : World} (r : Rel E nt B S.t S.h a w) : ∃ B', Rel E nt B' S'.t S'.h a w := by
  obtain ⟨hT, hH, hK⟩ := h
  replace hT := hT.all
  replace hH := hH.all
  have hb : ∀ g bx, S'.h g = some bx → S.h g = some bx := fun g bx h => (hH (g, bx) (look_mem h)).1
  let B' : Blk := fun g => if (S'.h g).isSome then B g else none
  have eB : ∀ g, (S'.h g).isSome = true → S'.h g = S.h g ∧ B' g = B g := by
    intro g hg
    refine ⟨?_, by simp [B', hg]⟩
    cases h : S'.h g with
    | none => rw [h] at hg; cases hg
    | some bx => exact (hb g bx h).symm
  have hun : ∀ b o, unst E B' S'.h b o → unst E B S.h b o := by
    rintro b o (h | ⟨g, h1, h2⟩)
    · exact .inl h
    · refine .inr ⟨g, ?_, ?_⟩
      · simp only [B'] at h1
        split at h1
        · exact h1
        · cases h1
      · cases hg : S'.h g with
        | none => rw [hg] at h2; exact h2.elim
        | some bx => rw [hb g bx hg]; rw [hg] at h2; exact h2
  have sub : ∀ {x : AV} {cs : List Value}, (∀ g ∈ namesA x, (S'.h g).isSome = true) → Rd (unst E B S.h) w x B S.h cs → Rd (unst E B' S'.h) w x B' S'.h cs := fun {x cs} hx h =>
    Rd_names x (fun g hg => (eB g (hx g hg))) (Rd_go (Evo.refl _ w) (fun b o _ h => hun b o h) x ⟨fun _ _ _ h => h, fun _ h => h, fun _ _ _ _ _ h => h, fun _ _ _ _ _ h => h⟩ h)
  refine ⟨B', r.nt, r.df, fun s x hs => ?_, fun g bx hg => ?_, fun g hg => by simp [B', hg], fun g g' b h1 h2 h3 h4 => ?_, r.left, fun g hg => ?_⟩
  · obtain ⟨h1, h2⟩ := hT (s, x) (look_mem hs)
    obtain ⟨v, h3, h4⟩ := r.tmp s x h1
    refine ⟨v, h3, Rdv_names (fun g hg => eB g ?_) (Rdv_sub hun h4)⟩
    rw [List.all_eq_true] at h2
    exact h2 g hg
  · obtain ⟨h1, h2⟩ := hH (g, bx) (look_mem hg)
    rw [List.all_eq_true] at h2
    have h3 := r.box g bx h1
    have e2 := (eB g (by rw [hg]; rfl)).2
    cases bx with
    | var x =>
      obtain ⟨b, cs, t, k1, k2, k3, k4⟩ := h3
      exact ⟨b, cs, t, e2.trans k1, k2, sub (fun g hg => h2 g hg) k3, k4⟩
    | froz x =>
      obtain ⟨b, cs, k1, k2, k3, k4⟩ := h3
      exact ⟨b, cs, e2.trans k1, k2, fun o h5 h6 h7 => k3 o h5 h6 (hun b o h7), sub (fun g hg => h2 g hg) k4⟩
    | tail e n k =>
      obtain ⟨k0, kT, k1⟩ := h3
      refine ⟨k0, ?_⟩
      rw [e2]; exact ⟨kT, k1⟩
    | own e n xs =>
      obtain ⟨k0, kT, k1⟩ := h3
      refine ⟨k0, ?_⟩
      rw [e2]
      refine ⟨kT, k1.imp id ?_⟩
      rintro ⟨b, cur, cap, c, m1, m2, m3, m4, m5, m6, m7, m8⟩
      exact ⟨b, cur, cap, c, m1, m2, m3, m4, m5, m6, Rdu_go (Evo.refl _ w) (fun b o _ h => hun b o h) n xs (Pic.refl0 _ _) m7, m8⟩
  · have hl : ∀ j, live (S'.h j) = true → live (S.h j) = true ∧ B' j = B j := by
      intro j hj
      cases hh : S'.h j with
      | none => rw [hh] at hj; cases hj
      | some bx => exact ⟨by rw [hb j bx hh, ← hh]; exact hj, (eB j (by rw [hh]; rfl)).2⟩
    obtain ⟨k1, k2⟩ := hl g h1
    obtain ⟨k3, k4⟩ := hl g' h2
    exact r.inj g g' b k1 k3 (k2 ▸ h3) (k4 ▸ h4)
  · cases hh : S.h g with
    | none => exact r.keep g hh
    | some bx =>
      unfold SubK at hK
      rw [List.all_eq_true] at hK
      have h1 := hK _ (look_mem hh)
      rw [Bool.or_eq_true] at h1
      rcases h1 with h1 | h1
      · exact E.lo g (by simpa using h1)
      · rw [show look g S'.H = none from hg] at h1; cases h1
/-- from S on the state may be read as S' -/
def Go2 (E : Env) (nt : Nat) (S S' : St) : Prop := ∀ B a w, Rel E nt B S.t S.h a w → ∃ B', Rel E nt B' S'.t S'.h a w
theorem Go2.sub {E : Env} {nt : Nat} {S S' : St} (h : Sub S S') : Go2 E nt S S' := fun _ _ _ r => h.rel r
theorem Go2.same {E : Env} {nt : Nat} {S S' : St} (h1 : S'.t = S.t) (h2 : S'.h = S.h) : Go2 E nt S S' := fun B a w r => ⟨B, by rw [h1, h2]; exact r⟩
theorem Go2.as {E : Env} {nt : Nat} {T : List (Nat × AV)} {H : List (Nat × Bx)} (s : Nat) (y : AV) (hs : look s T = some y) : Go2 E nt ⟨T, H⟩ ⟨(s, y) :: T, H⟩ := Go2.same ((look_cons _ _ _).trans (upd_eta hs)) rfl
theorem Go2.trans {E : Env} {nt : Nat} {S S' S'' : St} (h : Go2 E nt S S') (k : Go2 E nt S' S'') : Go2 E nt S S'' := fun B a w r => by
  obtain ⟨B', r'⟩ := h B a w r
  exact k B' a w r'
/-- a nil slice in a slot: a row that has no block yet -/
theorem Go2.token {E : Env} {nt : Nat} {T : List (Nat × AV)} {H : List (Nat × Bx)} (s g n : Nat) (e : TypeId) (hs : look s T = some (.v (.slice none 0 0))) (hg : look g H = none) : Go2 E nt ⟨T, H⟩ ⟨(s, .sl (some g) (n + 1) []) :: T, (g, .tail e (n + 1) 0) :: H⟩ := fun B a w r => by
  have r1 := r.token (g := g) (n := n + 1) (e := e) hg (Nat.succ_pos n)
  refine ⟨B, r1.nt, r1.df, fun s' x hx => ?_, fun g' bx h => ?_, fun g' h => ?_, fun g1 g2 b h1 h2 => ?_, r1.left, fun g' h => ?_⟩
  all_goals have eH : St.h ⟨(s, AV.sl (some g) (n + 1) []) :: T, (g, .tail e (n + 1) 0) :: H⟩ = upd (St.h ⟨T, H⟩) g (.tail e (n + 1) 0) := look_cons _ _ _
  · have eT : St.t ⟨(s, AV.sl (some g) (n + 1) []) :: T, (g, .tail e (n + 1) 0) :: H⟩ = upd (St.t ⟨T, H⟩) s (.sl (some g) (n + 1) []) := look_cons _ _ _
    rw [eH]
    rw [eT] at hx
    by_cases h : s' = s
    · subst h
      rw [upd_same] at hx
      injection hx with hx
      subst hx
      obtain ⟨v, h1, h2⟩ := r1.tmp s' _ hs
      rw [Rdv_v] at h2
      refine ⟨v, h1, ?_⟩
      rw [Rdv_not (by simp), h2.2]
      exact ⟨[_], nil_token (upd_same _ _ _) (r.non g hg), rfl⟩
    · rw [upd_ne _ _ h] at hx
      exact r1.tmp s' x hx
  · rw [eH] at h ⊢; exact r1.box g' bx h
  · rw [eH] at h; exact r1.non g' h
  · rw [eH] at h1 h2; exact r1.inj g1 g2 b h1 h2
  · rw [eH] at h; exact r1.keep g' h
section
variable {P : Program} {E : Env} {nt : Nat} {S S' : St} {Q : Exit → St → Prop} {c : Code}
theorem AW_go (h : Go2 E nt S S') (k : AW P E nt c S' Q) : AW P E nt c S Q := fun B a w r => by
  obtain ⟨B', r'⟩ := h B a w r
  exact k B' a w r'
theorem AW_loopI {ι : Type} (I : ι → St) (J : ι → Prop) (μ : ι → Nat) (i0 : ι) (h0 : J i0) (hs : Go2 E nt S (I i0))
    (round : ∀ i, J i → AW P E nt c (I i) (thenA (fun S' => ∃ j, J j ∧ μ j < μ i ∧ Go2 E nt S' (I j)) Q)) : AW P E nt (.loop c) S Q := by
  intro B a w r
  obtain ⟨B0, r0⟩ := hs B a w r
  have key : ∀ n i, μ i = n → J i → ∀ B a w, Rel E nt B (I i).t (I i).h a w → ∀ (b : Frame) (k : List Item) (cs : List Frame),
      ∃ e a' w', (∃ B' S', Rel E nt B' S'.t S'.h a' w' ∧ Q e S') ∧ Arrives P (lone (b.at a (.code c :: .inLoop c :: k)) cs w) b k cs e a' w' := by
    intro n
    induction n using Nat.strongRecOn with
    | _ n ih =>
      intro i hn hJ B a w r b k cs
      obtain ⟨e, a₁, w₁, ⟨B₁, S₁, r₁, hq⟩, harr⟩ := round i hJ B a w r b (.inLoop c :: k) cs
      cases e with
      | normal =>
        obtain ⟨j, hJj, hlt, hsub⟩ := hq
        obtain ⟨B₂, r₂⟩ := hsub _ _ _ r₁
        obtain ⟨e₂, a₂, w₂, hq₂, harr₂⟩ := ih (μ j) (hn ▸ hlt) j rfl hJj B₂ a₁ w₁ r₂ b k cs
        exact ⟨e₂, a₂, w₂, hq₂, .of_steps (Steps.trans harr (.one step_inLoop)) harr₂⟩
      | exit id => exact ⟨_, a₁, w₁, ⟨B₁, S₁, r₁, hq⟩, .pass (x := .inLoop c) rfl (fun _ _ => .inl (by simp)) harr⟩
      | goto l => exact ⟨_, a₁, w₁, ⟨B₁, S₁, r₁, hq⟩, .pass (x := .inLoop c) rfl (fun _ _ => .inl (by simp)) harr⟩
      | ret => exact ⟨_, a₁, w₁, ⟨B₁, S₁, r₁, hq⟩, .pass (x := .inLoop c) rfl (fun _ _ => .inl (by simp)) harr⟩
      | panic ch => exact ⟨_, a₁, w₁, ⟨B₁, S₁, r₁, hq⟩, .pass (x := .inLoop c) rfl (fun _ _ => .inl (by simp)) harr⟩
      | outgrown => exact hq.elim
  intro b k cs
  obtain ⟨e, a', w', hq, harr⟩ := key _ i0 rfl h0 B0 a w r0 b k cs
  exact ⟨e, a', w', hq, .of_steps (.one step_loop) harr⟩
end
end Go.Proofs.Ytphojngdgmnpaaa

namespace Go.Proofs.Ytphojngdgmnpaaa
open Go Go.RowKit
set_option linter.unusedVariables false
set_option linter.unusedSimpArgs false
set_option maxRecDepth 100000

theorem Rds_rdu {U : Uns} {w : World} {n : Nat} {B : Blk} {H : Hp} : ∀ {xs : List AV} {c : List Value}, Rds U w xs B H c → (∀ x ∈ xs, sizeA x = n) → Rdu U w n xs B H c
  | [], c, h, _ => by simpa [Rds, Rdu] using h
  | x :: xs, c, h, hn => by
    simp only [Rds] at h
    obtain ⟨c1, c2, rfl, h1, h2⟩ := h
    simp only [Rdu]
    exact ⟨c1, c2, rfl, by rw [Rd_len h1]; exact hn x List.mem_cons_self, h1, Rds_rdu h2 fun y hy => hn y (List.mem_cons_of_mem _ hy)⟩
theorem Rdu_rds {U : Uns} {w : World} {n : Nat} {B : Blk} {H : Hp} : ∀ {xs : List AV} {c : List Value}, Rdu U w n xs B H c → Rds U w xs B H c
  | [], c, h => by simpa [Rds, Rdu] using h
  | x :: xs, c, h => by
    simp only [Rdu] at h
    obtain ⟨c1, c2, rfl, _, h1, h2⟩ := h
    simp only [Rds]
    exact ⟨c1, c2, rfl, h1, Rdu_rds h2⟩
theorem WkL.rdu {H : Hp} {U : Uns} {w : World} {B : Blk} {n : Nat} {xs ys : List AV} (h : WkL H xs ys) {c : List Value} (hr : Rdu U w n xs B H c) : Rdu U w n ys B0 H0 c := by
  induction h generalizing c with
  | nil => simpa [Rdu] using hr
  | cons hx _ ih =>
    simp only [Rdu] at hr ⊢
    obtain ⟨c1, c2, e, k0, k1, k2⟩ := hr
    exact ⟨c1, c2, e, k0, (hx _ _ _ _ k1).1, ih k2⟩
theorem made_rdu {U : Uns} {w : World} {z : AV} {cs : Array Value} (h : Rd U w z B0 H0 cs.toList) (h0 : 0 < cs.size) : ∀ k, Rdu U w cs.size (List.replicate k z) B0 H0 (madeCells cs (k * cs.size)).toList := by
  have e : ∀ k, (madeCells cs (k * cs.size)).toList = (List.replicate k cs.toList).flatten := by
    intro k
    have hk : EncOk (fun _ : Unit => cs) cs.size := ⟨fun _ => rfl, fun _ => by
      unfold oneCells; rw [← Array.all_toList, List.all_eq_true]; exact Rd_one z h, h0⟩
    have hz := zeroCells_flat (enc := fun _ : Unit => cs) (x0 := ()) (z := .agg cs) hk rfl k
    have e1 : (madeCells cs (k * cs.size)) = Builtin.zeroCells cs k := rfl
    rw [e1]
    have e2 : (Value.agg cs).cells = cs := rfl
    rw [e2] at hz
    rw [hz]
    unfold flat
    clear hz e1 e2
    induction k with
    | zero => rfl
    | succ k ih => simp [List.replicate_succ, ih]
  intro k
  rw [e]
  induction k with
  | zero => simp [Rdu]
  | succ k ih =>
    simp only [List.replicate_succ, List.flatten_cons, Rdu]
    exact ⟨cs.toList, _, rfl, by simp, h, ih⟩
theorem imul_le (a b : Nat) (h : a * b ≤ 140737488355328) : (a : Int) * (b : Int) ≤ 281474976710656 := by
  have : (a : Int) * (b : Int) = ((a * b : Nat) : Int) := by simp
  omega
section
variable {P : Program} {E : Env} {nt : Nat} {ops : Array Oper} {T : Nat → Option AV} {H : Hp} {d : Option Nat} {ty : TypeId} {pos : String} {af : Array Edge} {gd : Option (Nat × Bool)} (tb : Tab P)
/-- what a new row of so many elements reads as -/
theorem Rel.newRow {B : Blk} {a : Act} {w : World} (r : Rel E nt B T H a w) {g es k : Nat} {e : TypeId} {ys : List AV} {cs : List Value} {cap : Nat} (hg : H g = none) (hn : 0 < es) (hy : Rdu (unst E B H) w es ys B0 H0 (cs.take (ys.length * es))) (hk : ys.length = k) (hc : cs.length = cap * es) (hkc : k ≤ cap) (hm : cap ≤ maxLen) :
    Rel E nt (upd B g w.heap.size) T (upd H g (.tail e es k)) a (w.alloc (.cells cs.toArray e)) ∧ Rd (unst E (upd B g w.heap.size) (upd H g (.tail e es k))) (w.alloc (.cells cs.toArray e)) (.sl (some g) es ys) (upd B g w.heap.size) (upd H g (.tail e es k)) [.slice (some ⟨w.heap.size, 0, none⟩) k cap] := by
  subst hk
  have hlt : ∀ j bj b, H j = some bj → B j = some b → b < w.heap.size := fun j bj b h1 h2 => r.blk_lt h1 h2
  refine ⟨r.new hg ⟨hn, Tie.none (r.keep _ hg), .inr ⟨w.heap.size, cs.toArray, cap, upd_same _ _ _, heap_alloc_new w _, by simpa using hc, hkc, hm, .inl r.left.size⟩⟩, ?_⟩
  simp only [Rd]
  have hle : ys.length * es ≤ cs.length := by rw [hc]; exact Nat.mul_le_mul_right _ hkc
  refine ⟨_, cap, rfl, hkc, hm, fun _ => ⟨w.heap.size, 0, cs.take (ys.length * es), rfl, ?_, fun o _ ho hun => ?_, Rdu_go (Evo.ofExt ((Ext.refl w).alloc _)) (unst_new hlt) _ ys (Pic.refl0 _ _) hy⟩, fun t ht => ?_⟩
  · rw [row_block (heap_alloc_new w _)]
    unfold rowOf
    rw [if_pos (by simpa using hle)]
    congr 1
    apply Array.ext'
    simp
  · rcases hun with ⟨h, _⟩ | ⟨j, h1, h2⟩
    · have := r.left.size; omega
    · by_cases hj : j = g
      · subst hj; rw [upd_same] at h2
        have h3 : ys.length * es ≤ o := h2
        omega
      · rw [upd_ne _ _ hj] at h1 h2
        cases hh : H j with
        | none => rw [hh] at h2; exact h2
        | some bj => have := hlt j bj _ hh h1; omega
  · injection ht with ht
    subst ht
    refine ⟨e, ys.length, upd_same _ _ _, Nat.le_refl _, fun _ => ⟨(fun h => by rw [upd_same] at h; cases h), fun b hb => ?_⟩⟩
    rw [upd_same] at hb
    injection hb with hb
    subst hb
    exact ⟨rfl, cs.toArray, heap_alloc_new w _, by simpa using hc⟩
theorem ok_bslice {t e : TypeId} {es bytes len : Nat} {ea : Bool} {l : List (Nat × Operand)} {vs : List (Nat × AV)} {z : AV} {out ys : List AV} {g : Nat} (hd : dOk nt d = true) (hs : tb.ti t = some (.sl e (es + 1) bytes ea)) (hz : ZeroOk P e z) (hv : partsA T l = some vs) (ho : fillA vs (List.replicate (len + 1) z) = some out) (hg : H g = none)
    (hw : ∀ H', WkL H' out ys) (hsz : out.all (fun x => Nat.beq (sizeA x) (es + 1)) = true) (hlen : out.length = len + 1) (hsmall : Nat.ble ((len + 1) * (es + 1)) 16777216 = true) :
    OpOK P E nt ops ⟨d, .buildSlice t (len + 1) l.toArray, ty, pos, af, gd⟩ T H [] ⟨.sl (some g) (es + 1) ys, [(g, .tail e (es + 1) (len + 1))]⟩ :=
  ok_eff hd fun B T' H' a w r ht hh hw' => by
    have hg' : H' g = none := (hw' (g, .tail e (es + 1) (len + 1)) (by simp)).trans hg
    obtain ⟨_, hu, hte, i, zv, z1, z2, z3, z4, z5⟩ := tb.ok t _ hs
    obtain ⟨i', zv', y1, y2, y3⟩ := hz
    rw [z1] at y1; injection y1 with y1; subst y1
    rw [z2] at y2; injection y2 with y2; subst y2
    have hzr := y3 (unst E B H') w
    have hzl : sizeA z = es + 1 := by rw [← Rd_len hzr]; simpa using z5
    have hm := Rdu_rds (Rdu_go (Evo.refl _ w) (fun _ _ _ h => h) _ _ ⟨fun g b h _ => by simp [H0, isVar] at h, fun g h => by simp [H0, isVar] at h, fun t n len A cap h => by obtain ⟨e, k, h, _⟩ := h; simp [H0] at h, fun g n len k v h => by obtain ⟨e, xs, h, _⟩ := h; simp [H0] at h⟩ (made_rdu (U := unst E B H') (w := w) hzr (by rw [z5]; omega) (len + 1)) : Rdu (unst E B H') w zv.cells.size (List.replicate (len + 1) z) B H' _)
    have hv' := parts_agree hv (T' := T') (fun p hp => ht p.2 (by simp [Op.operands]; exact ⟨p.1, hp⟩))
    have hsum : ∀ k i, sumS ((List.replicate k z).take i) = min i k * (es + 1) := by
      intro k
      induction k with
      | zero => intro i; simp [sumS]
      | succ k ih =>
        intro i
        cases i with
        | zero => simp [sumS]
        | succ i => simp only [List.replicate_succ, List.take_succ_cons, sumS, ih, hzl]; rw [Nat.succ_min_succ, Nat.succ_mul]; omega
    obtain ⟨cells', q1, q2⟩ := fill_rds r l vs _ out _ hv' ho (place := fun i => some (i * (es + 1), es + 1)) (fun i y h => by
      have hlt := (List.getElem?_eq_some_iff.1 h).1
      simp at hlt
      rw [List.getElem?_replicate, if_pos hlt] at h
      injection h with h
      subst h
      rw [hsum, hzl]
      have : min i (len + 1) = i := by omega
      rw [this]) hm
    have hszl : ∀ x ∈ out, sizeA x = es + 1 := fun x hx => Nat.eq_of_beq_eq_true (List.all_eq_true.1 hsz x hx)
    have hrdu := (hw H').rdu (Rds_rdu q2 hszl)
    have hyl : ys.length = len + 1 := by
      have := Rdu_len hrdu
      have h2 := Rdu_len (Rds_rdu q2 hszl)
      rw [this, hlen] at h2
      exact Nat.eq_of_mul_eq_mul_right (Nat.succ_pos es) h2
    have hcl := Rdu_len hrdu
    have hsm : (len + 1) * (es + 1) ≤ 16777216 := Nat.le_of_ble_eq_true hsmall
    have hlm : len + 1 ≤ (len + 1) * (es + 1) := Nat.le_mul_of_pos_right _ (Nat.succ_pos es)
    obtain ⟨k1, k2⟩ := r.newRow (e := e) (k := len + 1) (cap := len + 1) (cs := cells') hg' (Nat.succ_pos es) (by rw [← hcl, List.take_length]; exact hrdu) hyl (by rw [hcl, hyl]) (Nat.le_refl _) (by unfold maxLen; omega)
    have hbs := run_buildSlice (P := P) w t e (len + 1) (l.map fun p => (p.1, a.eval p.2)).toArray cells'.toArray i zv hu z1 z2 (by rw [z3]; omega) (by rw [z3]; have := Nat.mul_pos (Nat.succ_pos len) (Nat.succ_pos es); omega) (by
      rw [z3]
      have := fill_of_fillS _ _ _ q1
      rw [Array.toArray_toList] at this
      have e1 : madeCells zv.cells ((len + 1) * zv.cells.size) = (Array.range ((len + 1) * (es + 1))).map (zv.cells[· % zv.cells.size]!) := by rw [← z5]; rfl
      rw [e1] at this
      simpa using this)
    refine ⟨_, _, _, ?_, k1, by rw [Rdv_not (by simp)]; exact ⟨_, k2, rfl⟩⟩
    have hmm : (Array.map (fun x => (x.1, a.eval x.2)) l.toArray) = (l.map fun p => (p.1, a.eval p.2)).toArray := by simp
    simp only [execOp, hmm, Sem.run_bind, hbs]
    rfl
/-- make: so many zero elements, a variable of the function's own -/
theorem ok_make {t e : TypeId} {es bytes : Nat} {ea : Bool} {x y : Operand} {k k' : IntKind} {n : Nat} {z : AV} {g : Nat} (hd : dOk nt d = true) (hs : tb.ti t = some (.sl e (es + 1) bytes ea)) (hz : ZeroOk P e z) (hx : evalO T x = some (.v (.int k (n : Nat)))) (hy : evalO T y = some (.v (.int k' (n : Nat)))) (hg : H g = none) (hb : bytes * n ≤ 140737488355328) (hn : n ≤ 9223372036854775807) :
    OpOK P E nt ops ⟨d, .makeSlice t x y, ty, pos, af, gd⟩ T H [] ⟨.seg g 0 (es + 1) [] n n, [(g, .var (.arr (n * (es + 1)) (es + 1) (List.replicate n z)))]⟩ :=
  ok_eff hd fun B T' H' a w r ht hh hw' => by
    have hg' : H' g = none := (hw' (g, .var (.arr (n * (es + 1)) (es + 1) (List.replicate n z))) (by simp)).trans hg
    have e1 := r.evalv ((ht x (by simp [Op.operands])).trans hx)
    have e2 := r.evalv ((ht y (by simp [Op.operands])).trans hy)
    obtain ⟨_, hu, hte, i, zv, z1, z2, z3, z4, z5⟩ := tb.ok t _ hs
    obtain ⟨i', zv', y1, y2, y3⟩ := hz
    rw [z1] at y1; injection y1 with y1; subst y1
    rw [z2] at y2; injection y2 with y2; subst y2
    have hrun := run_make (P := P) w t e i zv hu z1 z2 k k' n n (by omega) (Int.le_refl _) (by rw [z4]; exact imul_le _ _ hb) (by omega)
    simp only [Int.toNat_natCast, z3] at hrun
    have hm := made_rdu (U := unst E (upd B g w.heap.size) (upd H' g (.var (.arr (n * (es + 1)) (es + 1) (List.replicate n z))))) (w := w.alloc (.cells (madeCells zv.cells (n * (es + 1))) e)) (y3 _ _) (by rw [z5]; omega) n
    rw [z5] at hm
    refine ⟨.slice (some ⟨w.heap.size, 0, none⟩) n n, w.alloc (.cells (madeCells zv.cells (n * (es + 1))) e), upd B g w.heap.size, ?_, r.new hg' ⟨w.heap.size, (madeCells zv.cells (n * (es + 1))).toList, e, upd_same _ _ _, by rw [Array.toArray_toList, heap_alloc_new], ?_, .inl r.left.size, Tie.none (r.keep _ hg')⟩, ?_⟩
    · simp [execOp, e1, e2, hrun]
    · simp only [Rd]
      exact ⟨by have := Rdu_len hm; simpa using this, hm⟩
    · rw [Rdv_not (by simp)]
      exact ⟨[_], by simp only [Rd]; exact ⟨by simp [updH, upd_same, isVar], w.heap.size, upd_same _ _ _, by unfold maxLen; omega, Nat.le_refl _, rfl⟩, rfl⟩
/-- make of none, with room -/
theorem ok_make0 {t e : TypeId} {es bytes : Nat} {ea : Bool} {x y : Operand} {k k' : IntKind} {n : Nat} {g : Nat} (hd : dOk nt d = true) (hs : tb.ti t = some (.sl e (es + 1) bytes ea)) (hx : evalO T x = some (.v (.int k 0))) (hy : evalO T y = some (.v (.int k' n))) (hg : H g = none) (hb : bytes * n ≤ 140737488355328) (hn : n ≤ 9223372036854775807) :
    OpOK P E nt ops ⟨d, .makeSlice t x y, ty, pos, af, gd⟩ T H [] ⟨.sl (some g) (es + 1) [], [(g, .tail e (es + 1) 0)]⟩ :=
  ok_eff hd fun B T' H' a w r ht hh hw' => by
    have hg' : H' g = none := (hw' (g, .tail e (es + 1) 0) (by simp)).trans hg
    have e1 := r.evalv ((ht x (by simp [Op.operands])).trans hx)
    have e2 := r.evalv ((ht y (by simp [Op.operands])).trans hy)
    obtain ⟨_, hu, hte, i, zv, z1, z2, z3, z4, z5⟩ := tb.ok t _ hs
    have hrun := run_make (P := P) w t e i zv hu z1 z2 k k' 0 n (by omega) (by omega) (by rw [z4]; exact imul_le _ _ hb) (by omega)
    simp only [Int.toNat_natCast, z3] at hrun
    obtain ⟨k1, k2⟩ := r.newRow (e := e) (k := 0) (cap := n) (ys := []) (cs := (madeCells zv.cells (n * (es + 1))).toList) hg' (Nat.succ_pos es) (by simp [Rdu]) rfl (by simp [size_madeCells]) (Nat.zero_le _) (by unfold maxLen; omega)
    rw [Array.toArray_toList] at k1 k2
    have hfin : (execOp a.eval ⟨d, .makeSlice t x y, ty, pos, af, gd⟩).run P w = .ok (.value (.slice (some ⟨w.heap.size, 0, none⟩) 0 n)) (w.alloc (.cells (madeCells zv.cells (n * (es + 1))) e)) := by
      simp [execOp, e1, e2, hrun]
    exact ⟨_, _, _, hfin, k1, by rw [Rdv_not (by simp)]; exact ⟨_, k2, rfl⟩⟩
/-! ### copies -/
/-- the first m elements of a copy's source -/
def SrcN (P : Program) (E : Env) (B : Blk) (H : Hp) (w : World) (n : Nat) (v : Value) (ys : List AV) (m : Nat) : Prop :=
  (Builtin.lenOf v).run P w = .ok ys.length w ∧ ∃ news, (Builtin.firstCells n m v).run P w = .ok news.toArray w ∧ Rdu (unst E B H) w n (ys.take m) B0 H0 news
def SrcNOf (P : Program) (n : Nat) (src : AV) (ys : List AV) : Prop := ∀ E B H w v m, m ≤ ys.length → Rdv (unst E B H) w B H src v → SrcN P E B H w n v ys m
theorem srcn_sl {n : Nat} {tok : Option Nat} {ys : List AV} : SrcNOf P n (.sl tok n ys) ys := fun E B H w v m hm h => by
  have h := Rdv_one (by simp) h rfl
  simp only [Rd] at h
  obtain ⟨A, cap, h1, h2, h3, h4, _⟩ := h
  injection h1 with h1
  subst h1
  refine ⟨by simp [Builtin.lenOf], ?_⟩
  by_cases h0 : m = 0
  · subst h0
    refine ⟨[], ?_, by simp [Rdu]⟩
    cases A <;> simp [Builtin.firstCells, loadCells, loadCellsFrom]
  · obtain ⟨b, off, c, rfl, k1, k2, k3⟩ := h4 (by omega)
    have hcl := Rdu_len k3
    have hle : m * n ≤ ys.length * n := Nat.mul_le_mul_right _ hm
    refine ⟨c.take (m * n), ?_, Rdu_take m k3⟩
    refine run_firstCells_some (P := P) w n m ⟨b, off, none⟩ ys.length cap (c.take (m * n)) (by rw [List.length_take]; omega) ?_
    refine cells_of_row (n := m * n) ?_
    have := row_sub k1 0 (m * n) (by omega)
    rw [Nat.add_zero] at this
    rw [this]
    unfold rowOf
    rw [if_pos (by simp; omega)]
    congr 1
    apply Array.ext'
    simp
theorem srcn_str {s : ByteArray} : SrcNOf P 1 (.v (.string s)) (bytesAV s) := fun E B H w v m hm h => by
  rw [Rdv_v] at h
  obtain ⟨_, rfl⟩ := h
  have hl : (bytesAV s).length = s.size := by unfold bytesAV; rw [List.length_map, Array.length_toList]; rfl
  refine ⟨by simp [Builtin.lenOf, hl], ((s.extract 0 m).data.map fun b => Value.int .u8 b.toNat).toList, by simp only [Builtin.firstCells, Sem.run_pure], ?_⟩
  have e1 : (bytesAV s).take m = (s.data.toList.take m).map fun b => AV.v (.int .u8 b.toNat) := by unfold bytesAV; rw [List.map_take]
  have e2 : (s.extract 0 m).data.toList = s.data.toList.take m := by simp
  rw [e1, Array.toList_map, e2]
  induction s.data.toList.take m with
  | nil => simp [Rdu]
  | cons b l ih =>
    simp only [List.map_cons, Rdu]
    exact ⟨[.int .u8 b.toNat], _, rfl, rfl, by simp [Rd, plain], ih⟩
theorem ok_copy {x y : Operand} {t tx e : TypeId} {es bytes : Nat} {ea : Bool} {g off len cap m : Nat} {p : List Nat} {z z' src : AV} {xs ys : List AV} (hd : dOk nt d = true) (hs : tb.ti t = some (.sl e es bytes ea)) (hx : evalO T x = some (.seg g off es p len cap)) (hy : evalO T y = some src) (hsrc : SrcNOf P es src ys)
    (hg : H g = some (.var z)) (hp : subA p z = some (.arr m es xs)) (ho : offA p z = off) (hl : len ≤ xs.length) (hz : setA (.arr m es (ys.take (min ys.length len) ++ xs.drop (min ys.length len))) p z = some z') :
    OpOK P E nt ops ⟨d, .call { callee := .builtin .copy, args := #[x, y], argTypes := #[t, tx] }, ty, pos, af, gd⟩ T H [g] ⟨.v (.int .i64 (min ys.length len : Nat)), [(g, .var z')]⟩ :=
  ok_eff hd fun B T' H' a w r ht hh hw => by
    have hg' : H' g = some (.var z) := (hh g (by simp)).trans hg
    have h := Rdv_one (by simp) (r.eval ((ht x (by simp [Op.operands, Call.operands])).trans hx)) rfl
    obtain ⟨s1, news, s2, s3⟩ := hsrc E B H' w _ (min ys.length len) (Nat.min_le_left _ _) (r.eval ((ht y (by simp [Op.operands, Call.operands])).trans hy))
    simp only [Rd] at h
    obtain ⟨_, b, h1, _, _, h2⟩ := h
    injection h2 with h2
    obtain ⟨b', cs, tt, k1, k2, k3, _⟩ := r.box g _ hg'
    rw [h1] at k1; injection k1 with k1; subst k1
    obtain ⟨c1, c2, c3, rfl, m1, m2, m3⟩ := Rd_sub p k3 hp
    simp only [Rd] at m2
    have hnl := Rdu_len s3
    rw [List.length_take] at hnl
    have hmm : min (min ys.length len) ys.length = min ys.length len := by omega
    rw [hmm] at hnl
    have hcl := Rdu_len m2.2
    have hle : min ys.length len * es ≤ xs.length * es := Nat.mul_le_mul_right _ (by omega)
    obtain ⟨_, hu, he, _⟩ := tb.ok t _ hs
    have hzz := run_sizeOf_of he w
    have hst := setCells_turned (P := P) w b off news k2 (by rw [← ho, ← m1]; simp; omega) (Rdu_one es _ s3)
    have hd2 := Rdu_drop (min ys.length len) m2.2 (by omega)
    have hnew := Rdu_append s3 hd2
    have hsp : splice (c1 ++ c2 ++ c3).toArray off news.toArray = (c1 ++ (news ++ c2.drop (min ys.length len * es)) ++ c3).toArray := by
      rw [← ho, ← m1]
      unfold splice
      apply Array.ext'
      simp only [List.size_toArray, List.append_assoc]
      rw [List.take_append, List.drop_append]
      simp [hnl, List.drop_append, show min ys.length len * es - c2.length = 0 by omega]
    have hst2 := r.store (x' := z') (cs' := c1 ++ (news ++ c2.drop (min ys.length len * es)) ++ c3) hg' h1 k2 (turned_put (off := off) (cs := news.toArray)) (by rw [putRow_heap_same k2, hsp]) (by simp; omega)
      (m3 _ z' _ hz (by simp only [Rd]; exact ⟨by rw [← m2.1]; simp; omega, hnew⟩) (by simp; omega))
    refine ⟨.int .i64 (min ys.length len : Nat), putRow w b off news.toArray, B, ?_, hst2, by rw [Rdv_v]; exact ⟨rfl, rfl⟩⟩
    have hmin : Nat.min ys.length len = min ys.length len := rfl
    simp [execOp, resolve, invoke, builtin, Builtin.copy_, h2, run_underlying hu, s1, hmin, hzz, s2, hst, goInt]
/-- an element's address in a made slice -/
theorem ok_idx_seg {x ix : Operand} {t e : TypeId} {es bytes : Nat} {ea : Bool} {g off len cap : Nat} {p : List Nat} {k : IntKind} {i : Nat} (hd : dOk nt d = true) (hs : tb.ti t = some (.sl e es bytes ea)) (hx : evalO T x = some (.seg g off es p len cap)) (hi : evalO T ix = some (.v (.int k (i : Nat)))) (hl : i < len) :
    OpOK P E nt ops ⟨d, .indexAddr t x ix, ty, pos, af, gd⟩ T H [] ⟨.ptr g (off + i * es) (p ++ [i]), []⟩ :=
  ok_val hd fun B T' H' a w r ht hh => by
    have h := Rdv_one (by simp) (r.eval ((ht x (by simp [Op.operands])).trans hx)) rfl
    have hj := r.evalv ((ht ix (by simp [Op.operands])).trans hi)
    simp only [Rd] at h
    obtain ⟨hv, b, h1, _, _, h2⟩ := h
    injection h2 with h2
    obtain ⟨_, hu, he, _⟩ := tb.ok t _ hs
    have hz := run_sizeOf_of he w
    have hl' : (i : Int) < (len : Int) := by omega
    refine ⟨.pointer (some ⟨b, off + i * es, none⟩), ?_, ?_⟩
    · simp [execOp, h2, hj, Instr.indexAt, run_underlying hu, asIntOf, hz, hl, add_lit]
    · rw [Rdv_not (by simp)]
      exact ⟨_, by simp only [Rd]; exact ⟨hv, b, h1, rfl⟩, rfl⟩
end

/-! ### a variable that stays as it is -/
theorem Rel.froz {E : Env} {nt : Nat} {B : Blk} {T : Nat → Option AV} {H : Hp} {a : Act} {w : World} (r : Rel E nt B T H a w) {g : Nat} {x : AV} (hg : H g = some (.var x)) : Rel E nt B T (upd H g (.froz x)) a w := by
  have hlive : live (H g) = true := by rw [hg]; rfl
  have hsub : ∀ b o, unst E B (upd H g (.froz x)) b o → unst E B H b o := by
    rintro b o (h | ⟨j, h1, h2⟩)
    · exact .inl h
    · by_cases hj : j = g
      · subst hj; rw [upd_same] at h2; exact h2.elim
      · rw [upd_ne _ _ hj] at h2; exact .inr ⟨j, h1, h2⟩
  have pic : Pic w w B B H (upd H g (.froz x)) := by
    refine ⟨fun _ _ _ h => h, fun j h => ?_, fun t n len A cap h => ?_, ownPic (Evo.refl (fun _ _ => False) w) fun g' e' n' ys h => ?_⟩
    · unfold upd; split
      · rfl
      · exact h
    · obtain ⟨e', k, h1, h2⟩ := h
      have hj : t ≠ g := fun e => by rw [e, hg] at h1; cases h1
      exact ⟨e', k, by rw [upd_ne _ _ hj]; exact h1, h2⟩
    · have hne : g' ≠ g := fun e' => by rw [e', hg] at h; cases h
      exact ⟨(upd_ne _ _ hne).trans h, rfl⟩
  obtain ⟨b, cs, ty, k1, k2, k3, k4⟩ := r.box g _ hg
  refine r.move (Evo.refl _ w) (fun b o _ h => hsub b o h) pic r.left (fun j bj h => ?_) (fun j h => ?_) (fun j j' b' h1 h2 h3 h4 => ?_)
  · by_cases hj : j = g
    · subst hj
      rw [upd_same] at h; injection h with h; subst h
      refine .inl ⟨b, cs, k1, ?_, fun o _ ho hun => ?_, Rd_go (Evo.refl _ w) (fun b o _ h => hsub b o h) x pic k3⟩
      · rw [row_block k2]; exact rowOf_full _ _ (by simp)
      · rcases hun with ⟨h, _, he⟩ | ⟨i, h1, h2⟩
        · rcases k4.1 with k4 | k4
          · omega
          · exact he k4.2.1
        · by_cases hi : i = j
          · subst hi; rw [upd_same] at h2; exact h2
          · rw [upd_ne _ _ hi] at h2
            cases hh : H i with
            | none => rw [hh] at h2; exact h2
            | some bi =>
              rw [hh] at h2
              refine hi (r.inj i j b ?_ hlive h1 k1)
              rw [hh]
              cases bi <;> first | rfl | exact h2.elim
    · rw [upd_ne _ _ hj] at h
      exact .inr ⟨h, rfl, fun _ _ _ => rfl⟩
  · by_cases hj : j = g
    · subst hj; rw [upd_same] at h; cases h
    · rw [upd_ne _ _ hj] at h; exact ⟨h, r.non j h⟩
  · have up : ∀ j, live (upd H g (.froz x) j) = true → live (H j) = true := by
      intro j hj
      by_cases h : j = g
      · subst h; exact hlive
      · rwa [upd_ne _ _ h] at hj
    exact r.inj j j' b' (up j h1) (up j' h2) h3 h4
theorem Go2.froz {E : Env} {nt : Nat} {T : List (Nat × AV)} {H : List (Nat × Bx)} (he : ∀ b, ¬ E.ent b) (g : Nat) {x : AV} (hg : look g H = some (.var x)) : Go2 E nt ⟨T, H⟩ ⟨T, (g, .froz x) :: H⟩ := fun B a w r => by
  have e : St.h ⟨T, (g, .froz x) :: H⟩ = upd (St.h ⟨T, H⟩) g (.froz x) := look_cons _ _ _
  exact ⟨B, by rw [e]; exact r.froz hg⟩
/-- a made slice that stays: a list -/
theorem Go2.seg {E : Env} {nt : Nat} {T : List (Nat × AV)} {H : List (Nat × Bx)} (s g : Nat) {off n m len cap : Nat} {p : List Nat} {y : AV} {xs : List AV} (hs : look s T = some (.seg g off n p len cap)) (hg : look g H = some (.froz y)) (hp : subA p y = some (.arr m n xs)) (ho : offA p y = off) (hl : len ≤ xs.length) :
    Go2 E nt ⟨T, H⟩ ⟨(s, .sl none n (xs.take len)) :: T, H⟩ := fun B a w r => by
  refine ⟨B, r.nt, r.df, fun s' x hx => ?_, r.box, r.non, r.inj, r.left, r.keep⟩
  have eT : St.t ⟨(s, AV.sl none n (xs.take len)) :: T, H⟩ = upd (St.t ⟨T, H⟩) s (.sl none n (xs.take len)) := look_cons _ _ _
  rw [eT] at hx
  by_cases h : s' = s
  · subst h
    rw [upd_same] at hx
    injection hx with hx
    subst hx
    obtain ⟨v, h1, h2⟩ := r.tmp s' _ hs
    refine ⟨v, h1, ?_⟩
    have h3 := Rdv_one (by simp) h2 rfl
    simp only [Rd] at h3
    obtain ⟨_, b, k1, k2, k3, k4⟩ := h3
    injection k4 with k4
    subst k4
    obtain ⟨b', cs, q1, q2, q3, q4⟩ := r.box g _ hg
    rw [k1] at q1; injection q1 with q1; subst q1
    obtain ⟨c1, c2, c3, rfl, m1, m2, _⟩ := Rd_sub p q4 hp
    have hrow := row_mid q2
    rw [Nat.zero_add, m1, ho] at hrow
    simp only [Rd] at m2
    have hl2 := Rdu_len m2.2
    have hlen : (xs.take len).length = len := by rw [List.length_take]; omega
    have e2 : len * n ≤ xs.length * n := Nat.mul_le_mul_right _ hl
    rw [Rdv_not (by simp)]
    refine ⟨[_], ?_, rfl⟩
    simp only [Rd]
    refine ⟨_, cap, by rw [hlen], by rw [hlen]; exact k3, k2, fun _ => ⟨b, off, c2.take (len * n), rfl, ?_, fun o o1 o2 => ?_, Rdu_take len m2.2⟩, fun t ht => by cases ht⟩
    · rw [hlen]
      have := row_sub hrow 0 (len * n) (by omega)
      rw [Nat.add_zero] at this
      rw [this]
      unfold rowOf
      rw [if_pos (by simp; omega)]
      congr 1
      apply Array.ext'
      simp
    · rw [hlen] at o2
      exact q3 o (by omega) (by simp; omega)
  · rw [upd_ne _ _ h] at hx
    exact r.tmp s' x hx
end Go.Proofs.Ytphojngdgmnpaaa

namespace Go.Proofs.Ytphojngdgmnpaaa
open Go Go.RowKit
set_option linter.unusedVariables false

theorem tyof1 : TyOf Try.prog 1 false 1 := ⟨_, Try.underlying1, rfl, by kernel_rfl⟩
theorem tyof2 : TyOf Try.prog 2 false 1 := ⟨_, Try.underlying2, rfl, by kernel_rfl⟩
theorem tyof3 : TyOf Try.prog 3 false 1 := ⟨_, Try.underlying3, rfl, by kernel_rfl⟩
theorem tyof4 : TyOf Try.prog 4 false 1 := ⟨_, Try.underlying4, rfl, by kernel_rfl⟩
theorem tyof5 : TyOf Try.prog 5 false 1 := ⟨_, Try.underlying5, rfl, by kernel_rfl⟩
theorem tyof6 : TyOf Try.prog 6 false 1 := ⟨_, Try.underlying6, rfl, by kernel_rfl⟩
theorem tyof7 : TyOf Try.prog 7 true 4 := ⟨_, Try.underlying7, rfl, by kernel_rfl⟩
theorem tyof9 : TyOf Try.prog 9 false 1 := ⟨_, Try.underlying9, rfl, by kernel_rfl⟩
theorem tyof12 : TyOf Try.prog 12 false 1 := ⟨_, Try.underlying12, rfl, by kernel_rfl⟩
theorem tyof13 : TyOf Try.prog 13 true 2 := ⟨_, Try.underlying13, rfl, by kernel_rfl⟩
theorem tyof15 : TyOf Try.prog 15 false 1 := ⟨_, Try.underlying15, rfl, by kernel_rfl⟩
theorem tyof16 : TyOf Try.prog 16 false 1 := ⟨_, Try.underlying16, rfl, by kernel_rfl⟩
theorem tyof17 : TyOf Try.prog 17 false 1 := ⟨_, Try.underlying17, rfl, by kernel_rfl⟩
theorem tyof18 : TyOf Try.prog 18 true 1 := ⟨_, Try.underlying18, rfl, by kernel_rfl⟩
theorem tyof20 : TyOf Try.prog 20 false 1 := ⟨_, Try.underlying20, rfl, by kernel_rfl⟩
theorem tyof21 : TyOf Try.prog 21 false 1 := ⟨_, Try.underlying21, rfl, by kernel_rfl⟩
theorem tyof22 : TyOf Try.prog 22 false 1 := ⟨_, Try.underlying22, rfl, by kernel_rfl⟩
theorem tyof23 : TyOf Try.prog 23 false 1 := ⟨_, Try.underlying23, rfl, by kernel_rfl⟩
theorem tyof24 : TyOf Try.prog 24 false 1 := ⟨_, Try.underlying24, rfl, by kernel_rfl⟩
theorem tyof25 : TyOf Try.prog 25 false 1 := ⟨_, Try.underlying25, rfl, by kernel_rfl⟩
theorem tyof27 : TyOf Try.prog 27 false 1 := ⟨_, Try.underlying27, rfl, by kernel_rfl⟩
theorem tyof29 : TyOf Try.prog 29 false 1 := ⟨_, Try.underlying29, rfl, by kernel_rfl⟩
theorem tyof30 : TyOf Try.prog 30 false 1 := ⟨_, Try.underlying30, rfl, by kernel_rfl⟩
theorem tyof31 : TyOf Try.prog 31 false 1 := ⟨_, Try.underlying31, rfl, by kernel_rfl⟩
theorem tyof32 : TyOf Try.prog 32 false 1 := ⟨_, Try.underlying32, rfl, by kernel_rfl⟩
theorem tyof33 : TyOf Try.prog 33 false 1 := ⟨_, Try.underlying33, rfl, by kernel_rfl⟩
theorem tyof34 : TyOf Try.prog 34 false 1 := ⟨_, Try.underlying34, rfl, by kernel_rfl⟩
theorem tyof35 : TyOf Try.prog 35 false 1 := ⟨_, Try.underlying35, rfl, by kernel_rfl⟩
theorem tyof36 : TyOf Try.prog 36 false 1 := ⟨_, Try.underlying36, rfl, by kernel_rfl⟩
theorem tyof37 : TyOf Try.prog 37 true 4 := ⟨_, Try.underlying37, rfl, by kernel_rfl⟩
theorem tyof38 : TyOf Try.prog 38 true 4 := ⟨_, Try.underlying38, rfl, by kernel_rfl⟩
theorem tyof39 : TyOf Try.prog 39 false 1 := ⟨_, Try.underlying39, rfl, by kernel_rfl⟩
theorem tyof40 : TyOf Try.prog 40 true 16 := ⟨_, Try.underlying40, rfl, by kernel_rfl⟩
theorem tyof41 : TyOf Try.prog 41 true 17 := ⟨_, Try.underlying41, rfl, by kernel_rfl⟩
theorem tyof42 : TyOf Try.prog 42 true 17 := ⟨_, Try.underlying42, rfl, by kernel_rfl⟩
theorem tyof43 : TyOf Try.prog 43 true 19 := ⟨_, Try.underlying43, rfl, by kernel_rfl⟩
theorem tyof44 : TyOf Try.prog 44 true 19 := ⟨_, Try.underlying44, rfl, by kernel_rfl⟩
theorem tyof45 : TyOf Try.prog 45 true 27 := ⟨_, Try.underlying45, rfl, by kernel_rfl⟩
theorem tyof46 : TyOf Try.prog 46 true 27 := ⟨_, Try.underlying46, rfl, by kernel_rfl⟩
theorem tyof47 : TyOf Try.prog 47 false 1 := ⟨_, Try.underlying47, rfl, by kernel_rfl⟩
theorem tyof48 : TyOf Try.prog 48 false 1 := ⟨_, Try.underlying48, rfl, by kernel_rfl⟩
theorem tyof49 : TyOf Try.prog 49 false 1 := ⟨_, Try.underlying49, rfl, by kernel_rfl⟩
theorem tyof50 : TyOf Try.prog 50 false 1 := ⟨_, Try.underlying50, rfl, by kernel_rfl⟩
theorem tyof51 : TyOf Try.prog 51 false 1 := ⟨_, Try.underlying51, rfl, by kernel_rfl⟩
theorem tyof52 : TyOf Try.prog 52 false 1 := ⟨_, Try.underlying52, rfl, by kernel_rfl⟩
theorem tyof53 : TyOf Try.prog 53 false 1 := ⟨_, Try.underlying53, rfl, by kernel_rfl⟩
theorem tyof54 : TyOf Try.prog 54 false 1 := ⟨_, Try.underlying54, rfl, by kernel_rfl⟩
theorem tyof55 : TyOf Try.prog 55 false 1 := ⟨_, Try.underlying55, rfl, by kernel_rfl⟩
theorem tyof56 : TyOf Try.prog 56 false 1 := ⟨_, Try.underlying56, rfl, by kernel_rfl⟩
theorem tyof57 : TyOf Try.prog 57 false 1 := ⟨_, Try.underlying57, rfl, by kernel_rfl⟩
theorem tyof58 : TyOf Try.prog 58 false 1 := ⟨_, Try.underlying58, rfl, by kernel_rfl⟩
theorem tyof59 : TyOf Try.prog 59 false 1 := ⟨_, Try.underlying59, rfl, by kernel_rfl⟩
theorem tyof60 : TyOf Try.prog 60 false 1 := ⟨_, Try.underlying60, rfl, by kernel_rfl⟩
theorem tyof61 : TyOf Try.prog 61 false 1 := ⟨_, Try.underlying61, rfl, by kernel_rfl⟩
theorem tyof62 : TyOf Try.prog 62 false 1 := ⟨_, Try.underlying62, rfl, by kernel_rfl⟩
theorem tyof63 : TyOf Try.prog 63 false 1 := ⟨_, Try.underlying63, rfl, by kernel_rfl⟩
theorem tyof64 : TyOf Try.prog 64 true 14 := ⟨_, Try.underlying64, rfl, by kernel_rfl⟩
theorem tyof65 : TyOf Try.prog 65 true 16 := ⟨_, Try.underlying65, rfl, by kernel_rfl⟩
theorem tyof66 : TyOf Try.prog 66 true 16 := ⟨_, Try.underlying66, rfl, by kernel_rfl⟩
theorem tyof67 : TyOf Try.prog 67 false 1 := ⟨_, Try.underlying67, rfl, by kernel_rfl⟩
theorem tyof68 : TyOf Try.prog 68 false 1 := ⟨_, Try.underlying68, rfl, by kernel_rfl⟩
theorem tyof69 : TyOf Try.prog 69 false 1 := ⟨_, Try.underlying69, rfl, by kernel_rfl⟩
theorem tyof70 : TyOf Try.prog 70 true 3 := ⟨_, Try.underlying70, rfl, by kernel_rfl⟩
theorem tyof71 : TyOf Try.prog 71 true 3 := ⟨_, Try.underlying71, rfl, by kernel_rfl⟩
theorem tyof72 : TyOf Try.prog 72 false 1 := ⟨_, Try.underlying72, rfl, by kernel_rfl⟩
theorem tyof73 : TyOf Try.prog 73 false 1 := ⟨_, Try.underlying73, rfl, by kernel_rfl⟩
theorem tyof74 : TyOf Try.prog 74 false 1 := ⟨_, Try.underlying74, rfl, by kernel_rfl⟩
theorem tyof75 : TyOf Try.prog 75 false 1 := ⟨_, Try.underlying75, rfl, by kernel_rfl⟩
theorem tyof76 : TyOf Try.prog 76 false 1 := ⟨_, Try.underlying76, rfl, by kernel_rfl⟩
theorem tyof78 : TyOf Try.prog 78 false 1 := ⟨_, Try.underlying78, rfl, by kernel_rfl⟩
theorem tyof79 : TyOf Try.prog 79 false 1 := ⟨_, Try.underlying79, rfl, by kernel_rfl⟩
theorem tyof80 : TyOf Try.prog 80 false 1 := ⟨_, Try.underlying80, rfl, by kernel_rfl⟩
theorem tyof81 : TyOf Try.prog 81 false 1 := ⟨_, Try.underlying81, rfl, by kernel_rfl⟩
theorem tyof83 : TyOf Try.prog 83 false 1 := ⟨_, Try.underlying83, rfl, by kernel_rfl⟩
theorem tyof85 : TyOf Try.prog 85 false 1 := ⟨_, Try.underlying85, rfl, by kernel_rfl⟩
theorem tyof86 : TyOf Try.prog 86 false 1 := ⟨_, Try.underlying86, rfl, by kernel_rfl⟩
theorem tyof87 : TyOf Try.prog 87 false 1 := ⟨_, Try.underlying87, rfl, by kernel_rfl⟩
theorem tyof88 : TyOf Try.prog 88 true 22 := ⟨_, Try.underlying88, rfl, by kernel_rfl⟩
theorem tyof89 : TyOf Try.prog 89 true 22 := ⟨_, Try.underlying89, rfl, by kernel_rfl⟩
theorem tyof90 : TyOf Try.prog 90 false 1 := ⟨_, Try.underlying90, rfl, by kernel_rfl⟩
theorem tyof91 : TyOf Try.prog 91 true 8 := ⟨_, Try.underlying91, rfl, by kernel_rfl⟩
theorem tyof92 : TyOf Try.prog 92 true 9 := ⟨_, Try.underlying92, rfl, by kernel_rfl⟩
theorem tyof93 : TyOf Try.prog 93 true 9 := ⟨_, Try.underlying93, rfl, by kernel_rfl⟩
theorem tyof94 : TyOf Try.prog 94 false 1 := ⟨_, Try.underlying94, rfl, by kernel_rfl⟩
theorem tyof95 : TyOf Try.prog 95 false 1 := ⟨_, Try.underlying95, rfl, by kernel_rfl⟩
theorem tyof96 : TyOf Try.prog 96 true 26 := ⟨_, Try.underlying96, rfl, by kernel_rfl⟩
theorem tyof97 : TyOf Try.prog 97 true 26 := ⟨_, Try.underlying97, rfl, by kernel_rfl⟩
theorem tyof98 : TyOf Try.prog 98 true 364 := ⟨_, Try.underlying98, rfl, by kernel_rfl⟩
theorem tyof99 : TyOf Try.prog 99 true 379 := ⟨_, Try.underlying99, rfl, by kernel_rfl⟩
theorem tyof100 : TyOf Try.prog 100 true 379 := ⟨_, Try.underlying100, rfl, by kernel_rfl⟩
theorem tyof101 : TyOf Try.prog 101 false 1 := ⟨_, Try.underlying101, rfl, by kernel_rfl⟩
theorem tyof102 : TyOf Try.prog 102 false 1 := ⟨_, Try.underlying102, rfl, by kernel_rfl⟩
theorem tyof103 : TyOf Try.prog 103 false 1 := ⟨_, Try.underlying103, rfl, by kernel_rfl⟩
theorem tyof104 : TyOf Try.prog 104 false 1 := ⟨_, Try.underlying104, rfl, by kernel_rfl⟩
theorem tyof105 : TyOf Try.prog 105 false 1 := ⟨_, Try.underlying105, rfl, by kernel_rfl⟩
theorem tyof106 : TyOf Try.prog 106 false 1 := ⟨_, Try.underlying106, rfl, by kernel_rfl⟩
theorem tyof108 : TyOf Try.prog 108 false 1 := ⟨_, Try.underlying108, rfl, by kernel_rfl⟩
theorem tyof110 : TyOf Try.prog 110 false 1 := ⟨_, Try.underlying110, rfl, by kernel_rfl⟩
theorem tyof111 : TyOf Try.prog 111 true 29 := ⟨_, Try.underlying111, rfl, by kernel_rfl⟩
theorem tyof112 : TyOf Try.prog 112 true 29 := ⟨_, Try.underlying112, rfl, by kernel_rfl⟩
theorem tyof113 : TyOf Try.prog 113 false 1 := ⟨_, Try.underlying113, rfl, by kernel_rfl⟩
theorem tyof114 : TyOf Try.prog 114 false 1 := ⟨_, Try.underlying114, rfl, by kernel_rfl⟩
theorem tyof115 : TyOf Try.prog 115 false 1 := ⟨_, Try.underlying115, rfl, by kernel_rfl⟩
theorem tyof116 : TyOf Try.prog 116 false 1 := ⟨_, Try.underlying116, rfl, by kernel_rfl⟩
theorem tyof117 : TyOf Try.prog 117 true 2 := ⟨_, Try.underlying117, rfl, by kernel_rfl⟩
theorem tyof118 : TyOf Try.prog 118 true 2 := ⟨_, Try.underlying118, rfl, by kernel_rfl⟩
theorem tyof119 : TyOf Try.prog 119 false 1 := ⟨_, Try.underlying119, rfl, by kernel_rfl⟩
theorem tyof121 : TyOf Try.prog 121 false 1 := ⟨_, Try.underlying121, rfl, by kernel_rfl⟩
theorem tyof123 : TyOf Try.prog 123 false 1 := ⟨_, Try.underlying123, rfl, by kernel_rfl⟩
theorem tyof124 : TyOf Try.prog 124 false 1 := ⟨_, Try.underlying124, rfl, by kernel_rfl⟩
theorem tyof125 : TyOf Try.prog 125 false 1 := ⟨_, Try.underlying125, rfl, by kernel_rfl⟩
theorem tyof126 : TyOf Try.prog 126 false 1 := ⟨_, Try.underlying126, rfl, by kernel_rfl⟩
theorem tyof127 : TyOf Try.prog 127 false 1 := ⟨_, Try.underlying127, rfl, by kernel_rfl⟩
theorem tyof128 : TyOf Try.prog 128 false 1 := ⟨_, Try.underlying128, rfl, by kernel_rfl⟩
theorem tyof129 : TyOf Try.prog 129 false 1 := ⟨_, Try.underlying129, rfl, by kernel_rfl⟩
theorem tyof130 : TyOf Try.prog 130 true 2 := ⟨_, Try.underlying130, rfl, by kernel_rfl⟩
theorem tyof131 : TyOf Try.prog 131 false 1 := ⟨_, Try.underlying131, rfl, by kernel_rfl⟩
theorem tyof132 : TyOf Try.prog 132 false 1 := ⟨_, Try.underlying132, rfl, by kernel_rfl⟩
theorem tyof133 : TyOf Try.prog 133 false 1 := ⟨_, Try.underlying133, rfl, by kernel_rfl⟩
theorem tyof135 : TyOf Try.prog 135 false 1 := ⟨_, Try.underlying135, rfl, by kernel_rfl⟩
theorem tyof136 : TyOf Try.prog 136 false 1 := ⟨_, Try.underlying136, rfl, by kernel_rfl⟩
theorem tyof137 : TyOf Try.prog 137 true 4 := ⟨_, Try.underlying137, rfl, by kernel_rfl⟩
theorem tyof142 : TyOf Try.prog 142 false 1 := ⟨_, Try.underlying142, rfl, by kernel_rfl⟩
theorem tyof143 : TyOf Try.prog 143 false 1 := ⟨_, Try.underlying143, rfl, by kernel_rfl⟩
theorem tyof144 : TyOf Try.prog 144 false 1 := ⟨_, Try.underlying144, rfl, by kernel_rfl⟩
theorem tyof145 : TyOf Try.prog 145 false 1 := ⟨_, Try.underlying145, rfl, by kernel_rfl⟩
theorem tyof146 : TyOf Try.prog 146 false 1 := ⟨_, Try.underlying146, rfl, by kernel_rfl⟩
theorem tyof147 : TyOf Try.prog 147 false 1 := ⟨_, Try.underlying147, rfl, by kernel_rfl⟩
theorem tyof148 : TyOf Try.prog 148 false 1 := ⟨_, Try.underlying148, rfl, by kernel_rfl⟩
theorem tyof149 : TyOf Try.prog 149 false 1 := ⟨_, Try.underlying149, rfl, by kernel_rfl⟩
theorem tyof150 : TyOf Try.prog 150 true 11 := ⟨_, Try.underlying150, rfl, by kernel_rfl⟩
theorem tyof152 : TyOf Try.prog 152 false 1 := ⟨_, Try.underlying152, rfl, by kernel_rfl⟩
theorem tiok1 : TiOk Try.prog 1 (.word) := tyof1
theorem tiok2 : TiOk Try.prog 2 (.word) := tyof2
theorem tiok3 : TiOk Try.prog 3 (.word) := tyof3
theorem tiok4 : TiOk Try.prog 4 (.word) := tyof4
theorem tiok5 : TiOk Try.prog 5 (.word) := tyof5
theorem tiok7 : TiOk Try.prog 7 (.st 4 [(0, 1, false), (1, 1, false), (2, 1, false), (3, 1, false)]) := st_ok tyof7 (F := Try.prog.fieldsOf 7) (by kernel_rfl) (l := [(0, 2), (1, 3), (2, 4), (3, 6)]) (by kernel_rfl) ⟨rfl, tyof2, rfl, tyof3, rfl, tyof4, rfl, tyof6, trivial⟩
theorem tiok9 : TiOk Try.prog 9 (.word) := tyof9
theorem tiok12 : TiOk Try.prog 12 (.word) := tyof12
theorem tiok13 : TiOk Try.prog 13 (.st 2 [(0, 1, false), (1, 1, false)]) := st_ok tyof13 (F := Try.prog.fieldsOf 13) (by kernel_rfl) (l := [(0, 9), (1, 12)]) (by kernel_rfl) ⟨rfl, tyof9, rfl, tyof12, trivial⟩
theorem tiok15 : TiOk Try.prog 15 (.word) := tyof15
theorem tiok16 : TiOk Try.prog 16 (.word) := tyof16
theorem tiok17 : TiOk Try.prog 17 (.word) := tyof17
theorem tiok18 : TiOk Try.prog 18 (.st 1 [(0, 1, false)]) := st_ok tyof18 (F := Try.prog.fieldsOf 18) (by kernel_rfl) (l := [(0, 17)]) (by kernel_rfl) ⟨rfl, tyof17, trivial⟩
theorem tiok20 : TiOk Try.prog 20 (.word) := tyof20
theorem tiok21 : TiOk Try.prog 21 (.word) := tyof21
theorem tiok22 : TiOk Try.prog 22 (.sl 3 1 8 false) := sl_ok tyof22 Try.underlying22 tyof3 (by kernel_rfl)
theorem tiok23 : TiOk Try.prog 23 (.sl 46 27 120 true) := sl_ok tyof23 Try.underlying23 tyof46 (by kernel_rfl)
theorem tiok24 : TiOk Try.prog 24 (.word) := tyof24
theorem tiok25 : TiOk Try.prog 25 (.word) := tyof25
theorem tiok27 : TiOk Try.prog 27 (.word) := tyof27
theorem tiok29 : TiOk Try.prog 29 (.word) := tyof29
theorem tiok30 : TiOk Try.prog 30 (.word) := tyof30
theorem tiok31 : TiOk Try.prog 31 (.word) := tyof31
theorem tiok32 : TiOk Try.prog 32 (.word) := tyof32
theorem tiok33 : TiOk Try.prog 33 (.sl 5 1 1 false) := sl_ok tyof33 Try.underlying33 tyof5 (by kernel_rfl)
theorem tiok34 : TiOk Try.prog 34 (.word) := tyof34
theorem tiok35 : TiOk Try.prog 35 (.word) := tyof35
theorem tiok36 : TiOk Try.prog 36 (.word) := tyof36
theorem tiok37 : TiOk Try.prog 37 (.st 4 [(0, 1, false), (1, 1, false), (2, 1, false), (3, 1, false)]) := st_ok tyof37 (F := Try.prog.fieldsOf 37) (by kernel_rfl) (l := [(0, 3), (1, 9), (2, 9), (3, 36)]) (by kernel_rfl) ⟨rfl, tyof3, rfl, tyof9, rfl, tyof9, rfl, tyof36, trivial⟩
theorem tiok38 : TiOk Try.prog 38 (.st 4 [(0, 1, false), (1, 1, false), (2, 1, false), (3, 1, false)]) := st_ok tyof38 (F := Try.prog.fieldsOf 38) (by kernel_rfl) (l := [(0, 3), (1, 9), (2, 9), (3, 36)]) (by kernel_rfl) ⟨rfl, tyof3, rfl, tyof9, rfl, tyof9, rfl, tyof36, trivial⟩
theorem tiok39 : TiOk Try.prog 39 (.word) := tyof39
theorem tiok40 : TiOk Try.prog 40 (.arr 16 16 1 false 5) := ⟨tyof40, Try.underlying40, tyof5⟩
theorem tiok41 : TiOk Try.prog 41 (.st 17 [(0, 1, false), (1, 16, true)]) := st_ok tyof41 (F := Try.prog.fieldsOf 41) (by kernel_rfl) (l := [(0, 3), (1, 40)]) (by kernel_rfl) ⟨rfl, tyof3, rfl, tyof40, trivial⟩
theorem tiok42 : TiOk Try.prog 42 (.st 17 [(0, 1, false), (1, 16, true)]) := st_ok tyof42 (F := Try.prog.fieldsOf 42) (by kernel_rfl) (l := [(0, 3), (1, 40)]) (by kernel_rfl) ⟨rfl, tyof3, rfl, tyof40, trivial⟩
theorem tiok43 : TiOk Try.prog 43 (.st 19 [(0, 1, false), (1, 1, false), (2, 17, true)]) := st_ok tyof43 (F := Try.prog.fieldsOf 43) (by kernel_rfl) (l := [(0, 39), (1, 4), (2, 42)]) (by kernel_rfl) ⟨rfl, tyof39, rfl, tyof4, rfl, tyof42, trivial⟩
theorem tiok44 : TiOk Try.prog 44 (.st 19 [(0, 1, false), (1, 1, false), (2, 17, true)]) := st_ok tyof44 (F := Try.prog.fieldsOf 44) (by kernel_rfl) (l := [(0, 39), (1, 4), (2, 42)]) (by kernel_rfl) ⟨rfl, tyof39, rfl, tyof4, rfl, tyof42, trivial⟩
theorem tiok45 : TiOk Try.prog 45 (.st 27 [(0, 1, false), (1, 1, false), (2, 4, true), (6, 1, false), (7, 1, false), (8, 19, true)]) := st_ok tyof45 (F := Try.prog.fieldsOf 45) (by kernel_rfl) (l := [(0, 3), (1, 3), (2, 38), (6, 3), (7, 3), (8, 44)]) (by kernel_rfl) ⟨rfl, tyof3, rfl, tyof3, rfl, tyof38, rfl, tyof3, rfl, tyof3, rfl, tyof44, trivial⟩
theorem tiok46 : TiOk Try.prog 46 (.st 27 [(0, 1, false), (1, 1, false), (2, 4, true), (6, 1, false), (7, 1, false), (8, 19, true)]) := st_ok tyof46 (F := Try.prog.fieldsOf 46) (by kernel_rfl) (l := [(0, 3), (1, 3), (2, 38), (6, 3), (7, 3), (8, 44)]) (by kernel_rfl) ⟨rfl, tyof3, rfl, tyof3, rfl, tyof38, rfl, tyof3, rfl, tyof3, rfl, tyof44, trivial⟩
theorem tiok47 : TiOk Try.prog 47 (.word) := tyof47
theorem tiok48 : TiOk Try.prog 48 (.word) := tyof48
theorem tiok49 : TiOk Try.prog 49 (.word) := tyof49
theorem tiok50 : TiOk Try.prog 50 (.word) := tyof50
theorem tiok51 : TiOk Try.prog 51 (.word) := tyof51
theorem tiok52 : TiOk Try.prog 52 (.sl 86 1 24 false) := sl_ok tyof52 Try.underlying52 tyof86 (by kernel_rfl)
theorem tiok53 : TiOk Try.prog 53 (.word) := tyof53
theorem tiok54 : TiOk Try.prog 54 (.word) := tyof54
theorem tiok55 : TiOk Try.prog 55 (.sl 89 22 64 true) := sl_ok tyof55 Try.underlying55 tyof89 (by kernel_rfl)
theorem tiok56 : TiOk Try.prog 56 (.word) := tyof56
theorem tiok57 : TiOk Try.prog 57 (.word) := tyof57
theorem tiok58 : TiOk Try.prog 58 (.word) := tyof58
theorem tiok59 : TiOk Try.prog 59 (.word) := tyof59
theorem tiok60 : TiOk Try.prog 60 (.word) := tyof60
theorem tiok61 : TiOk Try.prog 61 (.word) := tyof61
theorem tiok62 : TiOk Try.prog 62 (.word) := tyof62
theorem tiok63 : TiOk Try.prog 63 (.word) := tyof63
theorem tiok64 : TiOk Try.prog 64 (.arr 14 14 1 false 4) := ⟨tyof64, Try.underlying64, tyof4⟩
theorem tiok65 : TiOk Try.prog 65 (.st 16 [(0, 1, false), (1, 14, true), (15, 1, false)]) := st_ok tyof65 (F := Try.prog.fieldsOf 65) (by kernel_rfl) (l := [(0, 23), (1, 64), (15, 63)]) (by kernel_rfl) ⟨rfl, tyof23, rfl, tyof64, rfl, tyof63, trivial⟩
theorem tiok66 : TiOk Try.prog 66 (.st 16 [(0, 1, false), (1, 14, true), (15, 1, false)]) := st_ok tyof66 (F := Try.prog.fieldsOf 66) (by kernel_rfl) (l := [(0, 23), (1, 64), (15, 63)]) (by kernel_rfl) ⟨rfl, tyof23, rfl, tyof64, rfl, tyof63, trivial⟩
theorem tiok67 : TiOk Try.prog 67 (.word) := tyof67
theorem tiok68 : TiOk Try.prog 68 (.word) := tyof68
theorem tiok69 : TiOk Try.prog 69 (.sl 118 2 32 true) := sl_ok tyof69 Try.underlying69 tyof118 (by kernel_rfl)
theorem tiok70 : TiOk Try.prog 70 (.st 3 [(0, 1, false), (1, 1, false), (2, 1, false)]) := st_ok tyof70 (F := Try.prog.fieldsOf 70) (by kernel_rfl) (l := [(0, 23), (1, 69), (2, 3)]) (by kernel_rfl) ⟨rfl, tyof23, rfl, tyof69, rfl, tyof3, trivial⟩
theorem tiok71 : TiOk Try.prog 71 (.st 3 [(0, 1, false), (1, 1, false), (2, 1, false)]) := st_ok tyof71 (F := Try.prog.fieldsOf 71) (by kernel_rfl) (l := [(0, 23), (1, 69), (2, 3)]) (by kernel_rfl) ⟨rfl, tyof23, rfl, tyof69, rfl, tyof3, trivial⟩
theorem tiok72 : TiOk Try.prog 72 (.word) := tyof72
theorem tiok73 : TiOk Try.prog 73 (.sl 4 1 1 false) := sl_ok tyof73 Try.underlying73 tyof4 (by kernel_rfl)
theorem tiok74 : TiOk Try.prog 74 (.sl 97 26 40 true) := sl_ok tyof74 Try.underlying74 tyof97 (by kernel_rfl)
theorem tiok75 : TiOk Try.prog 75 (.word) := tyof75
theorem tiok76 : TiOk Try.prog 76 (.word) := tyof76
theorem tiok78 : TiOk Try.prog 78 (.word) := tyof78
theorem tiok79 : TiOk Try.prog 79 (.word) := tyof79
theorem tiok80 : TiOk Try.prog 80 (.word) := tyof80
theorem tiok81 : TiOk Try.prog 81 (.word) := tyof81
theorem tiok83 : TiOk Try.prog 83 (.word) := tyof83
theorem tiok85 : TiOk Try.prog 85 (.word) := tyof85
theorem tiok86 : TiOk Try.prog 86 (.sl 38 4 48 true) := sl_ok tyof86 Try.underlying86 tyof38 (by kernel_rfl)
theorem tiok87 : TiOk Try.prog 87 (.word) := tyof87
theorem tiok88 : TiOk Try.prog 88 (.st 22 [(0, 1, false), (1, 1, false), (2, 1, false), (3, 19, true)]) := st_ok tyof88 (F := Try.prog.fieldsOf 88) (by kernel_rfl) (l := [(0, 3), (1, 3), (2, 4), (3, 44)]) (by kernel_rfl) ⟨rfl, tyof3, rfl, tyof3, rfl, tyof4, rfl, tyof44, trivial⟩
theorem tiok89 : TiOk Try.prog 89 (.st 22 [(0, 1, false), (1, 1, false), (2, 1, false), (3, 19, true)]) := st_ok tyof89 (F := Try.prog.fieldsOf 89) (by kernel_rfl) (l := [(0, 3), (1, 3), (2, 4), (3, 44)]) (by kernel_rfl) ⟨rfl, tyof3, rfl, tyof3, rfl, tyof4, rfl, tyof44, trivial⟩
theorem tiok90 : TiOk Try.prog 90 (.word) := tyof90
theorem tiok91 : TiOk Try.prog 91 (.arr 8 8 1 false 5) := ⟨tyof91, Try.underlying91, tyof5⟩
theorem tiok92 : TiOk Try.prog 92 (.st 9 [(0, 1, false), (1, 8, true)]) := st_ok tyof92 (F := Try.prog.fieldsOf 92) (by kernel_rfl) (l := [(0, 3), (1, 91)]) (by kernel_rfl) ⟨rfl, tyof3, rfl, tyof91, trivial⟩
theorem tiok93 : TiOk Try.prog 93 (.st 9 [(0, 1, false), (1, 8, true)]) := st_ok tyof93 (F := Try.prog.fieldsOf 93) (by kernel_rfl) (l := [(0, 3), (1, 91)]) (by kernel_rfl) ⟨rfl, tyof3, rfl, tyof91, trivial⟩
theorem tiok94 : TiOk Try.prog 94 (.word) := tyof94
theorem tiok95 : TiOk Try.prog 95 (.word) := tyof95
theorem tiok96 : TiOk Try.prog 96 (.st 26 [(0, 9, true), (9, 17, true)]) := st_ok tyof96 (F := Try.prog.fieldsOf 96) (by kernel_rfl) (l := [(0, 93), (9, 42)]) (by kernel_rfl) ⟨rfl, tyof93, rfl, tyof42, trivial⟩
theorem tiok97 : TiOk Try.prog 97 (.st 26 [(0, 9, true), (9, 17, true)]) := st_ok tyof97 (F := Try.prog.fieldsOf 97) (by kernel_rfl) (l := [(0, 93), (9, 42)]) (by kernel_rfl) ⟨rfl, tyof93, rfl, tyof42, trivial⟩
theorem tiok98 : TiOk Try.prog 98 (.arr 364 14 26 true 97) := ⟨tyof98, Try.underlying98, tyof97⟩
theorem tiok99 : TiOk Try.prog 99 (.st 379 [(0, 14, true), (14, 1, false), (15, 364, true)]) := st_ok tyof99 (F := Try.prog.fieldsOf 99) (by kernel_rfl) (l := [(0, 64), (14, 3), (15, 98)]) (by kernel_rfl) ⟨rfl, tyof64, rfl, tyof3, rfl, tyof98, trivial⟩
theorem tiok100 : TiOk Try.prog 100 (.st 379 [(0, 14, true), (14, 1, false), (15, 364, true)]) := st_ok tyof100 (F := Try.prog.fieldsOf 100) (by kernel_rfl) (l := [(0, 64), (14, 3), (15, 98)]) (by kernel_rfl) ⟨rfl, tyof64, rfl, tyof3, rfl, tyof98, trivial⟩
theorem tiok101 : TiOk Try.prog 101 (.word) := tyof101
theorem tiok102 : TiOk Try.prog 102 (.word) := tyof102
theorem tiok103 : TiOk Try.prog 103 (.word) := tyof103
theorem tiok104 : TiOk Try.prog 104 (.word) := tyof104
theorem tiok105 : TiOk Try.prog 105 (.word) := tyof105
theorem tiok106 : TiOk Try.prog 106 (.word) := tyof106
theorem tiok108 : TiOk Try.prog 108 (.word) := tyof108
theorem tiok110 : TiOk Try.prog 110 (.word) := tyof110
theorem tiok111 : TiOk Try.prog 111 (.st 29 [(0, 1, false), (1, 1, false), (2, 9, true), (11, 17, true), (28, 1, false)]) := st_ok tyof111 (F := Try.prog.fieldsOf 111) (by kernel_rfl) (l := [(0, 3), (1, 36), (2, 93), (11, 42), (28, 36)]) (by kernel_rfl) ⟨rfl, tyof3, rfl, tyof36, rfl, tyof93, rfl, tyof42, rfl, tyof36, trivial⟩
theorem tiok112 : TiOk Try.prog 112 (.st 29 [(0, 1, false), (1, 1, false), (2, 9, true), (11, 17, true), (28, 1, false)]) := st_ok tyof112 (F := Try.prog.fieldsOf 112) (by kernel_rfl) (l := [(0, 3), (1, 36), (2, 93), (11, 42), (28, 36)]) (by kernel_rfl) ⟨rfl, tyof3, rfl, tyof36, rfl, tyof93, rfl, tyof42, rfl, tyof36, trivial⟩
theorem tiok113 : TiOk Try.prog 113 (.word) := tyof113
theorem tiok114 : TiOk Try.prog 114 (.word) := tyof114
theorem tiok115 : TiOk Try.prog 115 (.word) := tyof115
theorem tiok116 : TiOk Try.prog 116 (.word) := tyof116
theorem tiok117 : TiOk Try.prog 117 (.st 2 [(0, 1, false), (1, 1, false)]) := st_ok tyof117 (F := Try.prog.fieldsOf 117) (by kernel_rfl) (l := [(0, 3), (1, 74)]) (by kernel_rfl) ⟨rfl, tyof3, rfl, tyof74, trivial⟩
theorem tiok118 : TiOk Try.prog 118 (.st 2 [(0, 1, false), (1, 1, false)]) := st_ok tyof118 (F := Try.prog.fieldsOf 118) (by kernel_rfl) (l := [(0, 3), (1, 74)]) (by kernel_rfl) ⟨rfl, tyof3, rfl, tyof74, trivial⟩
theorem tiok119 : TiOk Try.prog 119 (.word) := tyof119
theorem tiok121 : TiOk Try.prog 121 (.word) := tyof121
theorem tiok123 : TiOk Try.prog 123 (.word) := tyof123
theorem tiok124 : TiOk Try.prog 124 (.word) := tyof124
theorem tiok125 : TiOk Try.prog 125 (.word) := tyof125
theorem tiok126 : TiOk Try.prog 126 (.word) := tyof126
theorem tiok127 : TiOk Try.prog 127 (.word) := tyof127
theorem tiok128 : TiOk Try.prog 128 (.word) := tyof128
theorem tiok129 : TiOk Try.prog 129 (.word) := tyof129
theorem tiok130 : TiOk Try.prog 130 (.arr 2 2 1 false 3) := ⟨tyof130, Try.underlying130, tyof3⟩
theorem tiok131 : TiOk Try.prog 131 (.word) := tyof131
theorem tiok132 : TiOk Try.prog 132 (.word) := tyof132
theorem tiok133 : TiOk Try.prog 133 (.word) := tyof133
theorem tiok135 : TiOk Try.prog 135 (.word) := tyof135
theorem tiok136 : TiOk Try.prog 136 (.word) := tyof136
theorem tiok137 : TiOk Try.prog 137 (.st 4 [(0, 1, false), (1, 1, false), (2, 1, false), (3, 1, false)]) := st_ok tyof137 (F := Try.prog.fieldsOf 137) (by kernel_rfl) (l := [(0, 17), (1, 17), (2, 17), (3, 9)]) (by kernel_rfl) ⟨rfl, tyof17, rfl, tyof17, rfl, tyof17, rfl, tyof9, trivial⟩
theorem tiok142 : TiOk Try.prog 142 (.word) := tyof142
theorem tiok143 : TiOk Try.prog 143 (.word) := tyof143
theorem tiok146 : TiOk Try.prog 146 (.word) := tyof146
theorem tiok147 : TiOk Try.prog 147 (.word) := tyof147
theorem tiok150 : TiOk Try.prog 150 (.st 11 [(0, 1, false), (1, 1, false), (2, 1, false), (3, 1, false), (4, 1, false), (5, 1, false), (6, 1, false), (7, 1, false), (8, 1, false), (9, 1, false), (10, 1, false)]) := st_ok tyof150 (F := Try.prog.fieldsOf 150) (by kernel_rfl) (l := [(0, 12), (1, 12), (2, 143), (3, 144), (4, 5), (5, 5), (6, 145), (7, 146), (8, 147), (9, 148), (10, 149)]) (by kernel_rfl) ⟨rfl, tyof12, rfl, tyof12, rfl, tyof143, rfl, tyof144, rfl, tyof5, rfl, tyof5, rfl, tyof145, rfl, tyof146, rfl, tyof147, rfl, tyof148, rfl, tyof149, trivial⟩
theorem tiok152 : TiOk Try.prog 152 (.word) := tyof152
def tabL : List (Nat × TI) := [(1, .word), (2, .word), (3, .word), (4, .word), (5, .word), (7, .st 4 [(0, 1, false), (1, 1, false), (2, 1, false), (3, 1, false)]), (9, .word), (12, .word), (13, .st 2 [(0, 1, false), (1, 1, false)]), (15, .word), (16, .word), (17, .word), (18, .st 1 [(0, 1, false)]), (20, .word), (21, .word), (22, .sl 3 1 8 false), (23, .sl 46 27 120 true), (24, .word), (25, .word), (27, .word), (29, .word), (30, .word), (31, .word), (32, .word), (33, .sl 5 1 1 false), (34, .word), (35, .word), (36, .word), (37, .st 4 [(0, 1, false), (1, 1, false), (2, 1, false), (3, 1, false)]), (38, .st 4 [(0, 1, false), (1, 1, false), (2, 1, false), (3, 1, false)]), (39, .word), (40, .arr 16 16 1 false 5), (41, .st 17 [(0, 1, false), (1, 16, true)]), (42, .st 17 [(0, 1, false), (1, 16, true)]), (43, .st 19 [(0, 1, false), (1, 1, false), (2, 17, true)]), (44, .st 19 [(0, 1, false), (1, 1, false), (2, 17, true)]), (45, .st 27 [(0, 1, false), (1, 1, false), (2, 4, true), (6, 1, false), (7, 1, false), (8, 19, true)]), (46, .st 27 [(0, 1, false), (1, 1, false), (2, 4, true), (6, 1, false), (7, 1, false), (8, 19, true)]), (47, .word), (48, .word), (49, .word), (50, .word), (51, .word), (52, .sl 86 1 24 false), (53, .word), (54, .word), (55, .sl 89 22 64 true), (56, .word), (57, .word), (58, .word), (59, .word), (60, .word), (61, .word), (62, .word), (63, .word), (64, .arr 14 14 1 false 4), (65, .st 16 [(0, 1, false), (1, 14, true), (15, 1, false)]), (66, .st 16 [(0, 1, false), (1, 14, true), (15, 1, false)]), (67, .word), (68, .word), (69, .sl 118 2 32 true), (70, .st 3 [(0, 1, false), (1, 1, false), (2, 1, false)]), (71, .st 3 [(0, 1, false), (1, 1, false), (2, 1, false)]), (72, .word), (73, .sl 4 1 1 false), (74, .sl 97 26 40 true), (75, .word), (76, .word), (78, .word), (79, .word), (80, .word), (81, .word), (83, .word), (85, .word), (86, .sl 38 4 48 true), (87, .word), (88, .st 22 [(0, 1, false), (1, 1, false), (2, 1, false), (3, 19, true)]), (89, .st 22 [(0, 1, false), (1, 1, false), (2, 1, false), (3, 19, true)]), (90, .word), (91, .arr 8 8 1 false 5), (92, .st 9 [(0, 1, false), (1, 8, true)]), (93, .st 9 [(0, 1, false), (1, 8, true)]), (94, .word), (95, .word), (96, .st 26 [(0, 9, true), (9, 17, true)]), (97, .st 26 [(0, 9, true), (9, 17, true)]), (98, .arr 364 14 26 true 97), (99, .st 379 [(0, 14, true), (14, 1, false), (15, 364, true)]), (100, .st 379 [(0, 14, true), (14, 1, false), (15, 364, true)]), (101, .word), (102, .word), (103, .word), (104, .word), (105, .word), (106, .word), (108, .word), (110, .word), (111, .st 29 [(0, 1, false), (1, 1, false), (2, 9, true), (11, 17, true), (28, 1, false)]), (112, .st 29 [(0, 1, false), (1, 1, false), (2, 9, true), (11, 17, true), (28, 1, false)]), (113, .word), (114, .word), (115, .word), (116, .word), (117, .st 2 [(0, 1, false), (1, 1, false)]), (118, .st 2 [(0, 1, false), (1, 1, false)]), (119, .word), (121, .word), (123, .word), (124, .word), (125, .word), (126, .word), (127, .word), (128, .word), (129, .word), (130, .arr 2 2 1 false 3), (131, .word), (132, .word), (133, .word), (135, .word), (136, .word), (137, .st 4 [(0, 1, false), (1, 1, false), (2, 1, false), (3, 1, false)]), (142, .word), (143, .word), (146, .word), (147, .word), (150, .st 11 [(0, 1, false), (1, 1, false), (2, 1, false), (3, 1, false), (4, 1, false), (5, 1, false), (6, 1, false), (7, 1, false), (8, 1, false), (9, 1, false), (10, 1, false)]), (152, .word)]
theorem tabL_ok : ∀ t i, look t tabL = some i → TiOk Try.prog t i := look_all (⟨tiok1, ⟨tiok2, ⟨tiok3, ⟨tiok4, ⟨tiok5, ⟨tiok7, ⟨tiok9, ⟨tiok12, ⟨tiok13, ⟨tiok15, ⟨tiok16, ⟨tiok17, ⟨tiok18, ⟨tiok20, ⟨tiok21, ⟨tiok22, ⟨tiok23, ⟨tiok24, ⟨tiok25, ⟨tiok27, ⟨tiok29, ⟨tiok30, ⟨tiok31, ⟨tiok32, ⟨tiok33, ⟨tiok34, ⟨tiok35, ⟨tiok36, ⟨tiok37, ⟨tiok38, ⟨tiok39, ⟨tiok40, ⟨tiok41, ⟨tiok42, ⟨tiok43, ⟨tiok44, ⟨tiok45, ⟨tiok46, ⟨tiok47, ⟨tiok48, ⟨tiok49, ⟨tiok50, ⟨tiok51, ⟨tiok52, ⟨tiok53, ⟨tiok54, ⟨tiok55, ⟨tiok56, ⟨tiok57, ⟨tiok58, ⟨tiok59, ⟨tiok60, ⟨tiok61, ⟨tiok62, ⟨tiok63, ⟨tiok64, ⟨tiok65, ⟨tiok66, ⟨tiok67, ⟨tiok68, ⟨tiok69, ⟨tiok70, ⟨tiok71, ⟨tiok72, ⟨tiok73, ⟨tiok74, ⟨tiok75, ⟨tiok76, ⟨tiok78, ⟨tiok79, ⟨tiok80, ⟨tiok81, ⟨tiok83, ⟨tiok85, ⟨tiok86, ⟨tiok87, ⟨tiok88, ⟨tiok89, ⟨tiok90, ⟨tiok91, ⟨tiok92, ⟨tiok93, ⟨tiok94, ⟨tiok95, ⟨tiok96, ⟨tiok97, ⟨tiok98, ⟨tiok99, ⟨tiok100, ⟨tiok101, ⟨tiok102, ⟨tiok103, ⟨tiok104, ⟨tiok105, ⟨tiok106, ⟨tiok108, ⟨tiok110, ⟨tiok111, ⟨tiok112, ⟨tiok113, ⟨tiok114, ⟨tiok115, ⟨tiok116, ⟨tiok117, ⟨tiok118, ⟨tiok119, ⟨tiok121, ⟨tiok123, ⟨tiok124, ⟨tiok125, ⟨tiok126, ⟨tiok127, ⟨tiok128, ⟨tiok129, ⟨tiok130, ⟨tiok131, ⟨tiok132, ⟨tiok133, ⟨tiok135, ⟨tiok136, ⟨tiok137, ⟨tiok142, ⟨tiok143, ⟨tiok146, ⟨tiok147, ⟨tiok150, ⟨tiok152, trivial⟩⟩⟩⟩⟩⟩⟩⟩⟩⟩⟩⟩⟩⟩⟩⟩⟩⟩⟩⟩⟩⟩⟩⟩⟩⟩⟩⟩⟩⟩⟩⟩⟩⟩⟩⟩⟩⟩⟩⟩⟩⟩⟩⟩⟩⟩⟩⟩⟩⟩⟩⟩⟩⟩⟩⟩⟩⟩⟩⟩⟩⟩⟩⟩⟩⟩⟩⟩⟩⟩⟩⟩⟩⟩⟩⟩⟩⟩⟩⟩⟩⟩⟩⟩⟩⟩⟩⟩⟩⟩⟩⟩⟩⟩⟩⟩⟩⟩⟩⟩⟩⟩⟩⟩⟩⟩⟩⟩⟩⟩⟩⟩⟩⟩⟩⟩⟩⟩⟩⟩⟩⟩⟩⟩⟩⟩⟩)
def tabT : Tab Try.prog := ⟨fun t => look t tabL, tabL_ok⟩
end Go.Proofs.Ytphojngdgmnpaaa

namespace Go.Proofs.Ytphojngdgmnpaaa
open Go Go.RowKit
set_option linter.unusedVariables false
set_option linter.unusedSimpArgs false
set_option maxRecDepth 100000

/-! ### [8]byte -/
theorem ba8_ld (v : Value) : Instr.loadAt 91 v = ldRow 91 v := ldRow_eq _ _
theorem ba8_load (b off : Nat) (w : World) : (ldRow 91 (.pointer (some ⟨b, off, none⟩))).run Try.prog w = onRow (row? w b off 8) w ((ldRow' 91 (.pointer (some ⟨b, off, none⟩))).run Try.prog w) :=
  run_ldRow Try.underlying91 rfl (by kernel_rfl) b off w
theorem ba8_st (a v : Value) : Instr.storeAt 91 a v = stRow 91 a v := stRow_eq _ _ _
theorem ba8_store (b off : Nat) (x : Vector (BitVec 8) 8) (w : World) :
    (stRow 91 (.pointer (some ⟨b, off, none⟩)) (.agg (bArr x))).run Try.prog w = onPut ((row? w b off 8).isSome && free? w b) (.ok () (putRow w b off (bArr x))) ((stRow' 91 (.pointer (some ⟨b, off, none⟩)) (.agg (bArr x))).run Try.prog w) :=
  run_stRow (by kernel_rfl) b off _ w (bArr_size x) (bArr_one x)
theorem ba8_eq (d : Nat) (x y : Vector (BitVec 8) 8) (w : World) : (Op.equalIn (d + 2) 91 (.agg (bArr x)) (.agg (bArr y))).run Try.prog w = .ok (x == y) w :=
  run_eq_bytes Try.underlying91 Try.underlying5 (by kernel_rfl) d x y w
attribute [go_sem ↓] ba8_ld ba8_st
attribute [go_sem] ba8_load ba8_store

/-! ### [16]byte -/
theorem ba16_ld (v : Value) : Instr.loadAt 40 v = ldRow 40 v := ldRow_eq _ _
theorem ba16_load (b off : Nat) (w : World) : (ldRow 40 (.pointer (some ⟨b, off, none⟩))).run Try.prog w = onRow (row? w b off 16) w ((ldRow' 40 (.pointer (some ⟨b, off, none⟩))).run Try.prog w) :=
  run_ldRow Try.underlying40 rfl (by kernel_rfl) b off w
theorem ba16_st (a v : Value) : Instr.storeAt 40 a v = stRow 40 a v := stRow_eq _ _ _
theorem ba16_store (b off : Nat) (x : Vector (BitVec 8) 16) (w : World) :
    (stRow 40 (.pointer (some ⟨b, off, none⟩)) (.agg (bArr x))).run Try.prog w = onPut ((row? w b off 16).isSome && free? w b) (.ok () (putRow w b off (bArr x))) ((stRow' 40 (.pointer (some ⟨b, off, none⟩)) (.agg (bArr x))).run Try.prog w) :=
  run_stRow (by kernel_rfl) b off _ w (bArr_size x) (bArr_one x)
theorem ba16_eq (d : Nat) (x y : Vector (BitVec 8) 16) (w : World) : (Op.equalIn (d + 2) 40 (.agg (bArr x)) (.agg (bArr y))).run Try.prog w = .ok (x == y) w :=
  run_eq_bytes Try.underlying40 Try.underlying5 (by kernel_rfl) d x y w
attribute [go_sem ↓] ba16_ld ba16_st
attribute [go_sem] ba16_load ba16_store

/-! ### api.Key -/
structure Key where
  n : Int
  b : Vector (BitVec 8) 8
def Key.beq (a b : Key) : Bool := a.n == b.n && a.b == b.b
theorem Key.beq_iff {a b : Key} : a.beq b = true ↔ a = b := by
  cases a; cases b
  simp [Key.beq, and_assoc]
instance : DecidableEq Key := fun a b => decidable_of_iff (a.beq b = true) Key.beq_iff
theorem Key.beq_dec (a b : Key) : a.beq b = decide (a = b) := by rw [Bool.eq_iff_iff, Key.beq_iff, decide_eq_true_eq]
@[irreducible] def Key.arr (s : Key) : Array Value := cat (cel (.int .i64 s.n)) (bArr s.b)
theorem Key.arr_def (s : Key) : s.arr = cat (cel (.int .i64 s.n)) (bArr s.b) := by unfold Key.arr; rfl
theorem Key.arr_size (s : Key) : s.arr.size = 9 := by rw [Key.arr_def]; simp [cat_size, cel_size, bArr_size]
theorem Key.arr_one (s : Key) : oneCells s.arr = true := by rw [Key.arr_def]; simp [oneCells_cat, oneCells_cel, Value.oneCell', bArr_one]
theorem Key.put (s x : Key) : splice s.arr 0 x.arr = x.arr := splice_full _ _ (by rw [Key.arr_size, Key.arr_size])
theorem Key.row (s : Key) : rowOf s.arr 0 9 = some s.arr := rowOf_full _ _ s.arr_size
theorem Key.arr_n (s : Key) : s.arr[0]? = some (.int .i64 s.n) := by
  refine get_of_row ?_; rw [Key.arr_def]; simp [rowOf_cat_left, rowOf_cat_right, rowOf_here, cat_size, cel_size, bArr_size]
theorem Key.get_n (s : Key) (hs : 0 < s.arr.size) : s.arr[0]'hs = .int .i64 s.n := (Array.getElem?_eq_some_iff.1 (Key.arr_n s)).2
theorem Key.put_n (s : Key) (x : Int) : splice s.arr 0 #[.int .i64 x] = ({ s with n := x } : Key).arr := by rw [Key.arr_def, Key.arr_def, ← cel_def]; simp [splice_cat_left, splice_cat_right, splice_all, cat_size, cel_size, bArr_size]
theorem Key.set_n (s : Key) (x : Int) : s.arr.setIfInBounds 0 (.int .i64 x) = ({ s with n := x } : Key).arr := (splice_single _ _ _ (by rw [Key.arr_size]; omega)).symm.trans (Key.put_n s x)
theorem Key.row_b (s : Key) : rowOf s.arr 1 8 = some (bArr s.b) := by rw [Key.arr_def]; simp [rowOf_cat_left, rowOf_cat_right, rowOf_here, cat_size, cel_size, bArr_size]
theorem Key.arr_b (s : Key) (i : Nat) (h : i < 8) : s.arr[1 + i]? = some (.int .u8 (B8 s.b[i])) := by
  have := rowOf_spec (Key.row_b s)
  rw [this.2.2 i h]; exact bArr_get _ i h
theorem Key.get_b (s : Key) (i : Nat) (h : i < 8) (hs : 1 + i < s.arr.size) : s.arr[1 + i]'hs = .int .u8 (B8 s.b[i]) := (Array.getElem?_eq_some_iff.1 (Key.arr_b s i h)).2
theorem Key.put_b (s : Key) (x : Vector (BitVec 8) 8) : splice s.arr 1 (bArr x) = ({ s with b := x } : Key).arr := by rw [Key.arr_def, Key.arr_def]; simp [splice_cat_left, splice_cat_right, splice_all, cat_size, cel_size, bArr_size]
theorem Key.setb_b (s : Key) (i : Nat) (h : i < 8) (x : BitVec 8) : s.arr.setIfInBounds (1 + i) (.int .u8 (B8 x)) = ({ s with b := s.b.setIfInBounds i x } : Key).arr := by
  have h2 := splice_row_one (Key.row_b s) i h x
  rw [Key.put_b] at h2
  exact (splice_single _ _ _ (by rw [Key.arr_size]; omega)).symm.trans h2
theorem Key.part_b (s : Key) (n : Nat) (h : n ≤ 8) : rowOf s.arr 1 n = some (flat be (s.b.toList.take n)).toArray := (rowOf_part (Key.row_b s) n h).trans (bArr_part s.b n h)
theorem Key.copy_b (s : Key) (xs : List (BitVec 8)) (h : xs.length ≤ 8) : splice s.arr 1 (flat be xs).toArray = ({ s with b := over s.b xs } : Key).arr := by rw [splice_part (Key.row_b s) (by rw [flat_be_size]; exact h), bArr_over _ _ h, Key.put_b]
def Key.zero : Key := { n := 0, b := Vector.replicate 8 0#8 }
theorem Key.zero_n : Key.zero.n = 0 := rfl
theorem Key.zero_b : Key.zero.b = Vector.replicate 8 0#8 := rfl
theorem Key.zero_arr : Key.zero.arr = #[.int .i64 0, .int .u8 0, .int .u8 0, .int .u8 0, .int .u8 0, .int .u8 0, .int .u8 0, .int .u8 0, .int .u8 0] := by rw [Key.arr_def]; simp [cat_def, cel_def, Key.zero, bArr_zero, D64_zero]
theorem Key.info : (Try.prog.info? 93).map (fun i => (i.zero, i.size)) = some (some (.agg Key.zero.arr), 9) := by rw [Key.zero_arr]; kernel_rfl
theorem Key.size' : (Try.prog.info? 93).map (·.size) = some 9 := by kernel_rfl
theorem Key.ld (v : Value) : Instr.loadAt 93 v = ldRow 93 v := ldRow_eq _ _
theorem Key.st (a v : Value) : Instr.storeAt 93 a v = stRow 93 a v := stRow_eq _ _ _
theorem Key.al (h : Bool) (v : Value) : Instr.alloc 93 h v = alRow 93 h v := alRow_eq _ _ _
theorem Key.bd (ps : Array (Nat × Value)) : Instr.build 93 ps = bdRow 93 ps := bdRow_eq _ _
theorem Key.load (b off : Nat) (w : World) : (ldRow 93 (.pointer (some ⟨b, off, none⟩))).run Try.prog w = onRow (row? w b off 9) w ((ldRow' 93 (.pointer (some ⟨b, off, none⟩))).run Try.prog w) :=
  run_ldRow Try.underlying93 rfl Key.size' b off w
theorem Key.store (b off : Nat) (s : Key) (w : World) : (stRow 93 (.pointer (some ⟨b, off, none⟩)) (.agg s.arr)).run Try.prog w = onPut ((row? w b off 9).isSome && free? w b) (.ok () (putRow w b off s.arr)) ((stRow' 93 (.pointer (some ⟨b, off, none⟩)) (.agg s.arr)).run Try.prog w) :=
  run_stRow Key.size' b off _ w s.arr_size s.arr_one
theorem Key.alloc (w : World) (v : Value) : (alRow 93 true v).run Try.prog w = .ok (.pointer (some ⟨w.heap.size, 0, none⟩)) (w.alloc (.cells Key.zero.arr 93)) :=
  run_alRow (z := .agg Key.zero.arr) (zero_of_info Key.info) w v
theorem Key.fields : (Try.prog.fieldsOf 93).toList.map (fun f => (f.name == "_", f.type, f.offset)) = [(false, 3, 0), (false, 91, 1)] := by kernel_rfl
theorem Key.under : Try.prog.underlying 93 = some (.struct (Try.prog.fieldsOf 93)) := by kernel_rfl
theorem Key.eq_ (d : Nat) (a b : Key) (w : World) : (Op.equalIn (d + 3) 93 (.agg a.arr) (.agg b.arr)).run Try.prog w = .ok (a.beq b) w := by
  have h := run_eq_struct Key.under (by kernel_rfl) Key.fields (EqFs.cons (EqF.int (d := (d + 1)) Try.underlying3 (Key.arr_n a) (Key.arr_n b)) (EqFs.cons (EqF.agg Try.underlying91 rfl (by kernel_rfl) (Key.row_b a) (Key.row_b b) (ba8_eq d _ _)) EqFs.nil)) w
  exact h.trans (by simp [Key.beq, Bool.and_assoc])
theorem Key.eqG : Try.prog.eqGuardType Try.prog.depth 93 = false := by kernel_rfl
theorem Key.eql (a b : Key) (w : World) : (binOp .eql 93 (.agg a.arr) (.agg b.arr)).run Try.prog w = .ok (.bool (decide (a = b))) w := by
  rw [run_eql_struct]; rw [show (10000 : Nat) = 9997 + 3 from rfl, Key.eq_, Key.beq_dec]; rfl
theorem Key.neq (a b : Key) (w : World) : (binOp .neq 93 (.agg a.arr) (.agg b.arr)).run Try.prog w = .ok (.bool (!decide (a = b))) w := by
  rw [run_neq_struct]; rw [show (10000 : Nat) = 9997 + 3 from rfl, Key.eq_, Key.beq_dec]; rfl
def Key.place : Nat → Option (Nat × Nat)
  | 0 => some (0, 1)
  | 1 => some (1, 8)
  | _ => none
theorem Key.places : (Try.prog.fieldsOf 93).toList.mapM (fun f => (Try.prog.info? f.type).map fun i => (f.offset, i.size)) = some [(0, 1), (1, 8)] := by kernel_rfl
theorem Key.build (ps : List (Nat × Value)) (w : World) : (bdRow 93 ps.toArray).run Try.prog w = onRow (fillS Key.place Key.zero.arr ps) w ((bdRow' 93 ps.toArray).run Try.prog w) :=
  run_bdRow Key.under (zero_of_info Key.info) Key.places (fun i => by match i with | 0 => rfl | 1 => rfl | n + 2 => rfl) ps w
theorem Key.place0 : Key.place 0 = some (0, 1) := rfl
theorem Key.place1 : Key.place 1 = some (1, 8) := rfl
attribute [go_sem ↓] Key.ld Key.st Key.al Key.bd Key.eql Key.neq
attribute [go_sem] Key.arr_size Key.arr_one Key.row Key.put Key.arr_n Key.get_n Key.put_n Key.set_n Key.row_b Key.arr_b Key.get_b Key.put_b Key.setb_b Key.part_b Key.copy_b Key.zero_n Key.zero_b Key.place0 Key.place1 Key.load Key.store Key.alloc Key.build Key.eqG
theorem Key.enc : EncOk Key.arr 9 := ⟨Key.arr_size, Key.arr_one, by omega⟩

/-! ### api.Value -/
structure Vl where
  n : Int
  b : Vector (BitVec 8) 16
def Vl.beq (a b : Vl) : Bool := a.n == b.n && a.b == b.b
theorem Vl.beq_iff {a b : Vl} : a.beq b = true ↔ a = b := by
  cases a; cases b
  simp [Vl.beq, and_assoc]
instance : DecidableEq Vl := fun a b => decidable_of_iff (a.beq b = true) Vl.beq_iff
theorem Vl.beq_dec (a b : Vl) : a.beq b = decide (a = b) := by rw [Bool.eq_iff_iff, Vl.beq_iff, decide_eq_true_eq]
@[irreducible] def Vl.arr (s : Vl) : Array Value := cat (cel (.int .i64 s.n)) (bArr s.b)
theorem Vl.arr_def (s : Vl) : s.arr = cat (cel (.int .i64 s.n)) (bArr s.b) := by unfold Vl.arr; rfl
theorem Vl.arr_size (s : Vl) : s.arr.size = 17 := by rw [Vl.arr_def]; simp [cat_size, cel_size, bArr_size]
theorem Vl.arr_one (s : Vl) : oneCells s.arr = true := by rw [Vl.arr_def]; simp [oneCells_cat, oneCells_cel, Value.oneCell', bArr_one]
theorem Vl.put (s x : Vl) : splice s.arr 0 x.arr = x.arr := splice_full _ _ (by rw [Vl.arr_size, Vl.arr_size])
theorem Vl.row (s : Vl) : rowOf s.arr 0 17 = some s.arr := rowOf_full _ _ s.arr_size
theorem Vl.arr_n (s : Vl) : s.arr[0]? = some (.int .i64 s.n) := by
  refine get_of_row ?_; rw [Vl.arr_def]; simp [rowOf_cat_left, rowOf_cat_right, rowOf_here, cat_size, cel_size, bArr_size]
theorem Vl.get_n (s : Vl) (hs : 0 < s.arr.size) : s.arr[0]'hs = .int .i64 s.n := (Array.getElem?_eq_some_iff.1 (Vl.arr_n s)).2
theorem Vl.put_n (s : Vl) (x : Int) : splice s.arr 0 #[.int .i64 x] = ({ s with n := x } : Vl).arr := by rw [Vl.arr_def, Vl.arr_def, ← cel_def]; simp [splice_cat_left, splice_cat_right, splice_all, cat_size, cel_size, bArr_size]
theorem Vl.set_n (s : Vl) (x : Int) : s.arr.setIfInBounds 0 (.int .i64 x) = ({ s with n := x } : Vl).arr := (splice_single _ _ _ (by rw [Vl.arr_size]; omega)).symm.trans (Vl.put_n s x)
theorem Vl.row_b (s : Vl) : rowOf s.arr 1 16 = some (bArr s.b) := by rw [Vl.arr_def]; simp [rowOf_cat_left, rowOf_cat_right, rowOf_here, cat_size, cel_size, bArr_size]
theorem Vl.arr_b (s : Vl) (i : Nat) (h : i < 16) : s.arr[1 + i]? = some (.int .u8 (B8 s.b[i])) := by
  have := rowOf_spec (Vl.row_b s)
  rw [this.2.2 i h]; exact bArr_get _ i h
theorem Vl.get_b (s : Vl) (i : Nat) (h : i < 16) (hs : 1 + i < s.arr.size) : s.arr[1 + i]'hs = .int .u8 (B8 s.b[i]) := (Array.getElem?_eq_some_iff.1 (Vl.arr_b s i h)).2
theorem Vl.put_b (s : Vl) (x : Vector (BitVec 8) 16) : splice s.arr 1 (bArr x) = ({ s with b := x } : Vl).arr := by rw [Vl.arr_def, Vl.arr_def]; simp [splice_cat_left, splice_cat_right, splice_all, cat_size, cel_size, bArr_size]
theorem Vl.setb_b (s : Vl) (i : Nat) (h : i < 16) (x : BitVec 8) : s.arr.setIfInBounds (1 + i) (.int .u8 (B8 x)) = ({ s with b := s.b.setIfInBounds i x } : Vl).arr := by
  have h2 := splice_row_one (Vl.row_b s) i h x
  rw [Vl.put_b] at h2
  exact (splice_single _ _ _ (by rw [Vl.arr_size]; omega)).symm.trans h2
theorem Vl.part_b (s : Vl) (n : Nat) (h : n ≤ 16) : rowOf s.arr 1 n = some (flat be (s.b.toList.take n)).toArray := (rowOf_part (Vl.row_b s) n h).trans (bArr_part s.b n h)
theorem Vl.copy_b (s : Vl) (xs : List (BitVec 8)) (h : xs.length ≤ 16) : splice s.arr 1 (flat be xs).toArray = ({ s with b := over s.b xs } : Vl).arr := by rw [splice_part (Vl.row_b s) (by rw [flat_be_size]; exact h), bArr_over _ _ h, Vl.put_b]
def Vl.zero : Vl := { n := 0, b := Vector.replicate 16 0#8 }
theorem Vl.zero_n : Vl.zero.n = 0 := rfl
theorem Vl.zero_b : Vl.zero.b = Vector.replicate 16 0#8 := rfl
theorem Vl.zero_arr : Vl.zero.arr = #[.int .i64 0, .int .u8 0, .int .u8 0, .int .u8 0, .int .u8 0, .int .u8 0, .int .u8 0, .int .u8 0, .int .u8 0, .int .u8 0, .int .u8 0, .int .u8 0, .int .u8 0, .int .u8 0, .int .u8 0, .int .u8 0, .int .u8 0] := by rw [Vl.arr_def]; simp [cat_def, cel_def, Vl.zero, bArr_zero, D64_zero]
theorem Vl.info : (Try.prog.info? 42).map (fun i => (i.zero, i.size)) = some (some (.agg Vl.zero.arr), 17) := by rw [Vl.zero_arr]; kernel_rfl
theorem Vl.size' : (Try.prog.info? 42).map (·.size) = some 17 := by kernel_rfl
theorem Vl.ld (v : Value) : Instr.loadAt 42 v = ldRow 42 v := ldRow_eq _ _
theorem Vl.st (a v : Value) : Instr.storeAt 42 a v = stRow 42 a v := stRow_eq _ _ _
theorem Vl.al (h : Bool) (v : Value) : Instr.alloc 42 h v = alRow 42 h v := alRow_eq _ _ _
theorem Vl.bd (ps : Array (Nat × Value)) : Instr.build 42 ps = bdRow 42 ps := bdRow_eq _ _
theorem Vl.load (b off : Nat) (w : World) : (ldRow 42 (.pointer (some ⟨b, off, none⟩))).run Try.prog w = onRow (row? w b off 17) w ((ldRow' 42 (.pointer (some ⟨b, off, none⟩))).run Try.prog w) :=
  run_ldRow Try.underlying42 rfl Vl.size' b off w
theorem Vl.store (b off : Nat) (s : Vl) (w : World) : (stRow 42 (.pointer (some ⟨b, off, none⟩)) (.agg s.arr)).run Try.prog w = onPut ((row? w b off 17).isSome && free? w b) (.ok () (putRow w b off s.arr)) ((stRow' 42 (.pointer (some ⟨b, off, none⟩)) (.agg s.arr)).run Try.prog w) :=
  run_stRow Vl.size' b off _ w s.arr_size s.arr_one
theorem Vl.alloc (w : World) (v : Value) : (alRow 42 true v).run Try.prog w = .ok (.pointer (some ⟨w.heap.size, 0, none⟩)) (w.alloc (.cells Vl.zero.arr 42)) :=
  run_alRow (z := .agg Vl.zero.arr) (zero_of_info Vl.info) w v
theorem Vl.fields : (Try.prog.fieldsOf 42).toList.map (fun f => (f.name == "_", f.type, f.offset)) = [(false, 3, 0), (false, 40, 1)] := by kernel_rfl
theorem Vl.under : Try.prog.underlying 42 = some (.struct (Try.prog.fieldsOf 42)) := by kernel_rfl
theorem Vl.eq_ (d : Nat) (a b : Vl) (w : World) : (Op.equalIn (d + 3) 42 (.agg a.arr) (.agg b.arr)).run Try.prog w = .ok (a.beq b) w := by
  have h := run_eq_struct Vl.under (by kernel_rfl) Vl.fields (EqFs.cons (EqF.int (d := (d + 1)) Try.underlying3 (Vl.arr_n a) (Vl.arr_n b)) (EqFs.cons (EqF.agg Try.underlying40 rfl (by kernel_rfl) (Vl.row_b a) (Vl.row_b b) (ba16_eq d _ _)) EqFs.nil)) w
  exact h.trans (by simp [Vl.beq, Bool.and_assoc])
theorem Vl.eqG : Try.prog.eqGuardType Try.prog.depth 42 = false := by kernel_rfl
theorem Vl.eql (a b : Vl) (w : World) : (binOp .eql 42 (.agg a.arr) (.agg b.arr)).run Try.prog w = .ok (.bool (decide (a = b))) w := by
  rw [run_eql_struct]; rw [show (10000 : Nat) = 9997 + 3 from rfl, Vl.eq_, Vl.beq_dec]; rfl
theorem Vl.neq (a b : Vl) (w : World) : (binOp .neq 42 (.agg a.arr) (.agg b.arr)).run Try.prog w = .ok (.bool (!decide (a = b))) w := by
  rw [run_neq_struct]; rw [show (10000 : Nat) = 9997 + 3 from rfl, Vl.eq_, Vl.beq_dec]; rfl
def Vl.place : Nat → Option (Nat × Nat)
  | 0 => some (0, 1)
  | 1 => some (1, 16)
  | _ => none
theorem Vl.places : (Try.prog.fieldsOf 42).toList.mapM (fun f => (Try.prog.info? f.type).map fun i => (f.offset, i.size)) = some [(0, 1), (1, 16)] := by kernel_rfl
theorem Vl.build (ps : List (Nat × Value)) (w : World) : (bdRow 42 ps.toArray).run Try.prog w = onRow (fillS Vl.place Vl.zero.arr ps) w ((bdRow' 42 ps.toArray).run Try.prog w) :=
  run_bdRow Vl.under (zero_of_info Vl.info) Vl.places (fun i => by match i with | 0 => rfl | 1 => rfl | n + 2 => rfl) ps w
theorem Vl.place0 : Vl.place 0 = some (0, 1) := rfl
theorem Vl.place1 : Vl.place 1 = some (1, 16) := rfl
attribute [go_sem ↓] Vl.ld Vl.st Vl.al Vl.bd Vl.eql Vl.neq
attribute [go_sem] Vl.arr_size Vl.arr_one Vl.row Vl.put Vl.arr_n Vl.get_n Vl.put_n Vl.set_n Vl.row_b Vl.arr_b Vl.get_b Vl.put_b Vl.setb_b Vl.part_b Vl.copy_b Vl.zero_n Vl.zero_b Vl.place0 Vl.place1 Vl.load Vl.store Vl.alloc Vl.build Vl.eqG
theorem Vl.enc : EncOk Vl.arr 17 := ⟨Vl.arr_size, Vl.arr_one, by omega⟩

/-! ### api.Msg -/
structure Msg where
  kind : Int
  seq : BitVec 64
  key : Key
  val : Vl
  add : BitVec 64
def Msg.beq (a b : Msg) : Bool := a.kind == b.kind && a.seq == b.seq && a.key.beq b.key && a.val.beq b.val && a.add == b.add
theorem Msg.beq_iff {a b : Msg} : a.beq b = true ↔ a = b := by
  cases a; cases b
  simp [Msg.beq, and_assoc, Key.beq_iff, Vl.beq_iff]
instance : DecidableEq Msg := fun a b => decidable_of_iff (a.beq b = true) Msg.beq_iff
theorem Msg.beq_dec (a b : Msg) : a.beq b = decide (a = b) := by rw [Bool.eq_iff_iff, Msg.beq_iff, decide_eq_true_eq]
@[irreducible] def Msg.arr (s : Msg) : Array Value := cat (cat (cat (cat (cel (.int .i64 s.kind)) (cel (.int .u64 (D64 s.seq)))) (s.key.arr)) (s.val.arr)) (cel (.int .u64 (D64 s.add)))
theorem Msg.arr_def (s : Msg) : s.arr = cat (cat (cat (cat (cel (.int .i64 s.kind)) (cel (.int .u64 (D64 s.seq)))) (s.key.arr)) (s.val.arr)) (cel (.int .u64 (D64 s.add))) := by unfold Msg.arr; rfl
theorem Msg.arr_size (s : Msg) : s.arr.size = 29 := by rw [Msg.arr_def]; simp [cat_size, cel_size, Key.arr_size, Vl.arr_size]
theorem Msg.arr_one (s : Msg) : oneCells s.arr = true := by rw [Msg.arr_def]; simp [oneCells_cat, oneCells_cel, Value.oneCell', Key.arr_one, Vl.arr_one]
theorem Msg.put (s x : Msg) : splice s.arr 0 x.arr = x.arr := splice_full _ _ (by rw [Msg.arr_size, Msg.arr_size])
theorem Msg.row (s : Msg) : rowOf s.arr 0 29 = some s.arr := rowOf_full _ _ s.arr_size
theorem Msg.arr_kind (s : Msg) : s.arr[0]? = some (.int .i64 s.kind) := by
  refine get_of_row ?_; rw [Msg.arr_def]; simp [rowOf_cat_left, rowOf_cat_right, rowOf_here, cat_size, cel_size, Key.arr_size, Vl.arr_size]
theorem Msg.get_kind (s : Msg) (hs : 0 < s.arr.size) : s.arr[0]'hs = .int .i64 s.kind := (Array.getElem?_eq_some_iff.1 (Msg.arr_kind s)).2
theorem Msg.put_kind (s : Msg) (x : Int) : splice s.arr 0 #[.int .i64 x] = ({ s with kind := x } : Msg).arr := by rw [Msg.arr_def, Msg.arr_def, ← cel_def]; simp [splice_cat_left, splice_cat_right, splice_all, cat_size, cel_size, Key.arr_size, Vl.arr_size]
theorem Msg.set_kind (s : Msg) (x : Int) : s.arr.setIfInBounds 0 (.int .i64 x) = ({ s with kind := x } : Msg).arr := (splice_single _ _ _ (by rw [Msg.arr_size]; omega)).symm.trans (Msg.put_kind s x)
theorem Msg.arr_seq (s : Msg) : s.arr[1]? = some (.int .u64 (D64 s.seq)) := by
  refine get_of_row ?_; rw [Msg.arr_def]; simp [rowOf_cat_left, rowOf_cat_right, rowOf_here, cat_size, cel_size, Key.arr_size, Vl.arr_size]
theorem Msg.get_seq (s : Msg) (hs : 1 < s.arr.size) : s.arr[1]'hs = .int .u64 (D64 s.seq) := (Array.getElem?_eq_some_iff.1 (Msg.arr_seq s)).2
theorem Msg.put_seq (s : Msg) (x : BitVec 64) : splice s.arr 1 #[.int .u64 (D64 x)] = ({ s with seq := x } : Msg).arr := by rw [Msg.arr_def, Msg.arr_def, ← cel_def]; simp [splice_cat_left, splice_cat_right, splice_all, cat_size, cel_size, Key.arr_size, Vl.arr_size]
theorem Msg.set_seq (s : Msg) (x : BitVec 64) : s.arr.setIfInBounds 1 (.int .u64 (D64 x)) = ({ s with seq := x } : Msg).arr := (splice_single _ _ _ (by rw [Msg.arr_size]; omega)).symm.trans (Msg.put_seq s x)
theorem Msg.row_key (s : Msg) : rowOf s.arr 2 9 = some (s.key.arr) := by rw [Msg.arr_def]; simp [rowOf_cat_left, rowOf_cat_right, rowOf_here, cat_size, cel_size, Key.arr_size, Vl.arr_size]
theorem Msg.put_key (s : Msg) (x : Key) : splice s.arr 2 (x.arr) = ({ s with key := x } : Msg).arr := by rw [Msg.arr_def, Msg.arr_def]; simp [splice_cat_left, splice_cat_right, splice_all, cat_size, cel_size, Key.arr_size, Vl.arr_size]
theorem Msg.row_val (s : Msg) : rowOf s.arr 11 17 = some (s.val.arr) := by rw [Msg.arr_def]; simp [rowOf_cat_left, rowOf_cat_right, rowOf_here, cat_size, cel_size, Key.arr_size, Vl.arr_size]
theorem Msg.put_val (s : Msg) (x : Vl) : splice s.arr 11 (x.arr) = ({ s with val := x } : Msg).arr := by rw [Msg.arr_def, Msg.arr_def]; simp [splice_cat_left, splice_cat_right, splice_all, cat_size, cel_size, Key.arr_size, Vl.arr_size]
theorem Msg.arr_add (s : Msg) : s.arr[28]? = some (.int .u64 (D64 s.add)) := by
  refine get_of_row ?_; rw [Msg.arr_def]; simp [rowOf_cat_left, rowOf_cat_right, rowOf_here, cat_size, cel_size, Key.arr_size, Vl.arr_size]
theorem Msg.get_add (s : Msg) (hs : 28 < s.arr.size) : s.arr[28]'hs = .int .u64 (D64 s.add) := (Array.getElem?_eq_some_iff.1 (Msg.arr_add s)).2
theorem Msg.put_add (s : Msg) (x : BitVec 64) : splice s.arr 28 #[.int .u64 (D64 x)] = ({ s with add := x } : Msg).arr := by rw [Msg.arr_def, Msg.arr_def, ← cel_def]; simp [splice_cat_left, splice_cat_right, splice_all, cat_size, cel_size, Key.arr_size, Vl.arr_size]
theorem Msg.set_add (s : Msg) (x : BitVec 64) : s.arr.setIfInBounds 28 (.int .u64 (D64 x)) = ({ s with add := x } : Msg).arr := (splice_single _ _ _ (by rw [Msg.arr_size]; omega)).symm.trans (Msg.put_add s x)
def Msg.zero : Msg := { kind := 0, seq := 0#64, key := Key.zero, val := Vl.zero, add := 0#64 }
theorem Msg.zero_kind : Msg.zero.kind = 0 := rfl
theorem Msg.zero_seq : Msg.zero.seq = 0#64 := rfl
theorem Msg.zero_key : Msg.zero.key = Key.zero := rfl
theorem Msg.zero_val : Msg.zero.val = Vl.zero := rfl
theorem Msg.zero_add : Msg.zero.add = 0#64 := rfl
theorem Msg.zero_arr : Msg.zero.arr = #[.int .i64 0, .int .u64 0, .int .i64 0, .int .u8 0, .int .u8 0, .int .u8 0, .int .u8 0, .int .u8 0, .int .u8 0, .int .u8 0, .int .u8 0, .int .i64 0, .int .u8 0, .int .u8 0, .int .u8 0, .int .u8 0, .int .u8 0, .int .u8 0, .int .u8 0, .int .u8 0, .int .u8 0, .int .u8 0, .int .u8 0, .int .u8 0, .int .u8 0, .int .u8 0, .int .u8 0, .int .u8 0, .int .u64 0] := by rw [Msg.arr_def]; simp [cat_def, cel_def, Msg.zero, bArr_zero, D64_zero, Key.zero_arr, Vl.zero_arr]
theorem Msg.info : (Try.prog.info? 112).map (fun i => (i.zero, i.size)) = some (some (.agg Msg.zero.arr), 29) := by rw [Msg.zero_arr]; kernel_rfl
theorem Msg.size' : (Try.prog.info? 112).map (·.size) = some 29 := by kernel_rfl
theorem Msg.ld (v : Value) : Instr.loadAt 112 v = ldRow 112 v := ldRow_eq _ _
theorem Msg.st (a v : Value) : Instr.storeAt 112 a v = stRow 112 a v := stRow_eq _ _ _
theorem Msg.al (h : Bool) (v : Value) : Instr.alloc 112 h v = alRow 112 h v := alRow_eq _ _ _
theorem Msg.bd (ps : Array (Nat × Value)) : Instr.build 112 ps = bdRow 112 ps := bdRow_eq _ _
theorem Msg.load (b off : Nat) (w : World) : (ldRow 112 (.pointer (some ⟨b, off, none⟩))).run Try.prog w = onRow (row? w b off 29) w ((ldRow' 112 (.pointer (some ⟨b, off, none⟩))).run Try.prog w) :=
  run_ldRow Try.underlying112 rfl Msg.size' b off w
theorem Msg.store (b off : Nat) (s : Msg) (w : World) : (stRow 112 (.pointer (some ⟨b, off, none⟩)) (.agg s.arr)).run Try.prog w = onPut ((row? w b off 29).isSome && free? w b) (.ok () (putRow w b off s.arr)) ((stRow' 112 (.pointer (some ⟨b, off, none⟩)) (.agg s.arr)).run Try.prog w) :=
  run_stRow Msg.size' b off _ w s.arr_size s.arr_one
theorem Msg.alloc (w : World) (v : Value) : (alRow 112 true v).run Try.prog w = .ok (.pointer (some ⟨w.heap.size, 0, none⟩)) (w.alloc (.cells Msg.zero.arr 112)) :=
  run_alRow (z := .agg Msg.zero.arr) (zero_of_info Msg.info) w v
theorem Msg.fields : (Try.prog.fieldsOf 112).toList.map (fun f => (f.name == "_", f.type, f.offset)) = [(false, 3, 0), (false, 36, 1), (false, 93, 2), (false, 42, 11), (false, 36, 28)] := by kernel_rfl
theorem Msg.under : Try.prog.underlying 112 = some (.struct (Try.prog.fieldsOf 112)) := by kernel_rfl
theorem Msg.eq_ (d : Nat) (a b : Msg) (w : World) : (Op.equalIn (d + 4) 112 (.agg a.arr) (.agg b.arr)).run Try.prog w = .ok (a.beq b) w := by
  have h := run_eq_struct Msg.under (by kernel_rfl) Msg.fields (EqFs.cons (EqF.int (d := (d + 2)) Try.underlying3 (Msg.arr_kind a) (Msg.arr_kind b)) (EqFs.cons (EqF.u64 (d := (d + 2)) Try.underlying36 (Msg.arr_seq a) (Msg.arr_seq b)) (EqFs.cons (EqF.agg Try.underlying93 rfl (by kernel_rfl) (Msg.row_key a) (Msg.row_key b) (Key.eq_ d _ _)) (EqFs.cons (EqF.agg Try.underlying42 rfl (by kernel_rfl) (Msg.row_val a) (Msg.row_val b) (Vl.eq_ d _ _)) (EqFs.cons (EqF.u64 (d := (d + 2)) Try.underlying36 (Msg.arr_add a) (Msg.arr_add b)) EqFs.nil))))) w
  exact h.trans (by simp [Msg.beq, Bool.and_assoc])
theorem Msg.eqG : Try.prog.eqGuardType Try.prog.depth 112 = false := by kernel_rfl
theorem Msg.eql (a b : Msg) (w : World) : (binOp .eql 112 (.agg a.arr) (.agg b.arr)).run Try.prog w = .ok (.bool (decide (a = b))) w := by
  rw [run_eql_struct]; rw [show (10000 : Nat) = 9996 + 4 from rfl, Msg.eq_, Msg.beq_dec]; rfl
theorem Msg.neq (a b : Msg) (w : World) : (binOp .neq 112 (.agg a.arr) (.agg b.arr)).run Try.prog w = .ok (.bool (!decide (a = b))) w := by
  rw [run_neq_struct]; rw [show (10000 : Nat) = 9996 + 4 from rfl, Msg.eq_, Msg.beq_dec]; rfl
def Msg.place : Nat → Option (Nat × Nat)
  | 0 => some (0, 1)
  | 1 => some (1, 1)
  | 2 => some (2, 9)
  | 3 => some (11, 17)
  | 4 => some (28, 1)
  | _ => none
theorem Msg.places : (Try.prog.fieldsOf 112).toList.mapM (fun f => (Try.prog.info? f.type).map fun i => (f.offset, i.size)) = some [(0, 1), (1, 1), (2, 9), (11, 17), (28, 1)] := by kernel_rfl
theorem Msg.build (ps : List (Nat × Value)) (w : World) : (bdRow 112 ps.toArray).run Try.prog w = onRow (fillS Msg.place Msg.zero.arr ps) w ((bdRow' 112 ps.toArray).run Try.prog w) :=
  run_bdRow Msg.under (zero_of_info Msg.info) Msg.places (fun i => by match i with | 0 => rfl | 1 => rfl | 2 => rfl | 3 => rfl | 4 => rfl | n + 5 => rfl) ps w
theorem Msg.place0 : Msg.place 0 = some (0, 1) := rfl
theorem Msg.place1 : Msg.place 1 = some (1, 1) := rfl
theorem Msg.place2 : Msg.place 2 = some (2, 9) := rfl
theorem Msg.place3 : Msg.place 3 = some (11, 17) := rfl
theorem Msg.place4 : Msg.place 4 = some (28, 1) := rfl
attribute [go_sem ↓] Msg.ld Msg.st Msg.al Msg.bd Msg.eql Msg.neq
attribute [go_sem] Msg.arr_size Msg.arr_one Msg.row Msg.put Msg.arr_kind Msg.get_kind Msg.put_kind Msg.set_kind Msg.arr_seq Msg.get_seq Msg.put_seq Msg.set_seq Msg.row_key Msg.put_key Msg.row_val Msg.put_val Msg.arr_add Msg.get_add Msg.put_add Msg.set_add Msg.zero_kind Msg.zero_seq Msg.zero_key Msg.zero_val Msg.zero_add Msg.place0 Msg.place1 Msg.place2 Msg.place3 Msg.place4 Msg.load Msg.store Msg.alloc Msg.build Msg.eqG
theorem Msg.enc : EncOk Msg.arr 29 := ⟨Msg.arr_size, Msg.arr_one, by omega⟩

/-! ### api.Entry -/
structure Ent where
  key : Key
  val : Vl
def Ent.beq (a b : Ent) : Bool := a.key.beq b.key && a.val.beq b.val
theorem Ent.beq_iff {a b : Ent} : a.beq b = true ↔ a = b := by
  cases a; cases b
  simp [Ent.beq, and_assoc, Key.beq_iff, Vl.beq_iff]
instance : DecidableEq Ent := fun a b => decidable_of_iff (a.beq b = true) Ent.beq_iff
theorem Ent.beq_dec (a b : Ent) : a.beq b = decide (a = b) := by rw [Bool.eq_iff_iff, Ent.beq_iff, decide_eq_true_eq]
@[irreducible] def Ent.arr (s : Ent) : Array Value := cat (s.key.arr) (s.val.arr)
theorem Ent.arr_def (s : Ent) : s.arr = cat (s.key.arr) (s.val.arr) := by unfold Ent.arr; rfl
theorem Ent.arr_size (s : Ent) : s.arr.size = 26 := by rw [Ent.arr_def]; simp [cat_size, cel_size, Key.arr_size, Vl.arr_size]
theorem Ent.arr_one (s : Ent) : oneCells s.arr = true := by rw [Ent.arr_def]; simp [oneCells_cat, oneCells_cel, Value.oneCell', Key.arr_one, Vl.arr_one]
theorem Ent.put (s x : Ent) : splice s.arr 0 x.arr = x.arr := splice_full _ _ (by rw [Ent.arr_size, Ent.arr_size])
theorem Ent.row (s : Ent) : rowOf s.arr 0 26 = some s.arr := rowOf_full _ _ s.arr_size
theorem Ent.row_key (s : Ent) : rowOf s.arr 0 9 = some (s.key.arr) := by rw [Ent.arr_def]; simp [rowOf_cat_left, rowOf_cat_right, rowOf_here, cat_size, cel_size, Key.arr_size, Vl.arr_size]
theorem Ent.put_key (s : Ent) (x : Key) : splice s.arr 0 (x.arr) = ({ s with key := x } : Ent).arr := by rw [Ent.arr_def, Ent.arr_def]; simp [splice_cat_left, splice_cat_right, splice_all, cat_size, cel_size, Key.arr_size, Vl.arr_size]
theorem Ent.row_val (s : Ent) : rowOf s.arr 9 17 = some (s.val.arr) := by rw [Ent.arr_def]; simp [rowOf_cat_left, rowOf_cat_right, rowOf_here, cat_size, cel_size, Key.arr_size, Vl.arr_size]
theorem Ent.put_val (s : Ent) (x : Vl) : splice s.arr 9 (x.arr) = ({ s with val := x } : Ent).arr := by rw [Ent.arr_def, Ent.arr_def]; simp [splice_cat_left, splice_cat_right, splice_all, cat_size, cel_size, Key.arr_size, Vl.arr_size]
def Ent.zero : Ent := { key := Key.zero, val := Vl.zero }
theorem Ent.zero_key : Ent.zero.key = Key.zero := rfl
theorem Ent.zero_val : Ent.zero.val = Vl.zero := rfl
theorem Ent.zero_arr : Ent.zero.arr = #[.int .i64 0, .int .u8 0, .int .u8 0, .int .u8 0, .int .u8 0, .int .u8 0, .int .u8 0, .int .u8 0, .int .u8 0, .int .i64 0, .int .u8 0, .int .u8 0, .int .u8 0, .int .u8 0, .int .u8 0, .int .u8 0, .int .u8 0, .int .u8 0, .int .u8 0, .int .u8 0, .int .u8 0, .int .u8 0, .int .u8 0, .int .u8 0, .int .u8 0, .int .u8 0] := by rw [Ent.arr_def]; simp [cat_def, cel_def, Ent.zero, bArr_zero, D64_zero, Key.zero_arr, Vl.zero_arr]
theorem Ent.info : (Try.prog.info? 97).map (fun i => (i.zero, i.size)) = some (some (.agg Ent.zero.arr), 26) := by rw [Ent.zero_arr]; kernel_rfl
theorem Ent.size' : (Try.prog.info? 97).map (·.size) = some 26 := by kernel_rfl
theorem Ent.ld (v : Value) : Instr.loadAt 97 v = ldRow 97 v := ldRow_eq _ _
theorem Ent.st (a v : Value) : Instr.storeAt 97 a v = stRow 97 a v := stRow_eq _ _ _
theorem Ent.al (h : Bool) (v : Value) : Instr.alloc 97 h v = alRow 97 h v := alRow_eq _ _ _
theorem Ent.bd (ps : Array (Nat × Value)) : Instr.build 97 ps = bdRow 97 ps := bdRow_eq _ _
theorem Ent.load (b off : Nat) (w : World) : (ldRow 97 (.pointer (some ⟨b, off, none⟩))).run Try.prog w = onRow (row? w b off 26) w ((ldRow' 97 (.pointer (some ⟨b, off, none⟩))).run Try.prog w) :=
  run_ldRow Try.underlying97 rfl Ent.size' b off w
theorem Ent.store (b off : Nat) (s : Ent) (w : World) : (stRow 97 (.pointer (some ⟨b, off, none⟩)) (.agg s.arr)).run Try.prog w = onPut ((row? w b off 26).isSome && free? w b) (.ok () (putRow w b off s.arr)) ((stRow' 97 (.pointer (some ⟨b, off, none⟩)) (.agg s.arr)).run Try.prog w) :=
  run_stRow Ent.size' b off _ w s.arr_size s.arr_one
theorem Ent.alloc (w : World) (v : Value) : (alRow 97 true v).run Try.prog w = .ok (.pointer (some ⟨w.heap.size, 0, none⟩)) (w.alloc (.cells Ent.zero.arr 97)) :=
  run_alRow (z := .agg Ent.zero.arr) (zero_of_info Ent.info) w v
theorem Ent.fields : (Try.prog.fieldsOf 97).toList.map (fun f => (f.name == "_", f.type, f.offset)) = [(false, 93, 0), (false, 42, 9)] := by kernel_rfl
theorem Ent.under : Try.prog.underlying 97 = some (.struct (Try.prog.fieldsOf 97)) := by kernel_rfl
theorem Ent.eq_ (d : Nat) (a b : Ent) (w : World) : (Op.equalIn (d + 4) 97 (.agg a.arr) (.agg b.arr)).run Try.prog w = .ok (a.beq b) w := by
  have h := run_eq_struct Ent.under (by kernel_rfl) Ent.fields (EqFs.cons (EqF.agg Try.underlying93 rfl (by kernel_rfl) (Ent.row_key a) (Ent.row_key b) (Key.eq_ d _ _)) (EqFs.cons (EqF.agg Try.underlying42 rfl (by kernel_rfl) (Ent.row_val a) (Ent.row_val b) (Vl.eq_ d _ _)) EqFs.nil)) w
  exact h.trans (by simp [Ent.beq, Bool.and_assoc])
theorem Ent.eqG : Try.prog.eqGuardType Try.prog.depth 97 = false := by kernel_rfl
theorem Ent.eql (a b : Ent) (w : World) : (binOp .eql 97 (.agg a.arr) (.agg b.arr)).run Try.prog w = .ok (.bool (decide (a = b))) w := by
  rw [run_eql_struct]; rw [show (10000 : Nat) = 9996 + 4 from rfl, Ent.eq_, Ent.beq_dec]; rfl
theorem Ent.neq (a b : Ent) (w : World) : (binOp .neq 97 (.agg a.arr) (.agg b.arr)).run Try.prog w = .ok (.bool (!decide (a = b))) w := by
  rw [run_neq_struct]; rw [show (10000 : Nat) = 9996 + 4 from rfl, Ent.eq_, Ent.beq_dec]; rfl
def Ent.place : Nat → Option (Nat × Nat)
  | 0 => some (0, 9)
  | 1 => some (9, 17)
  | _ => none
theorem Ent.places : (Try.prog.fieldsOf 97).toList.mapM (fun f => (Try.prog.info? f.type).map fun i => (f.offset, i.size)) = some [(0, 9), (9, 17)] := by kernel_rfl
theorem Ent.build (ps : List (Nat × Value)) (w : World) : (bdRow 97 ps.toArray).run Try.prog w = onRow (fillS Ent.place Ent.zero.arr ps) w ((bdRow' 97 ps.toArray).run Try.prog w) :=
  run_bdRow Ent.under (zero_of_info Ent.info) Ent.places (fun i => by match i with | 0 => rfl | 1 => rfl | n + 2 => rfl) ps w
theorem Ent.place0 : Ent.place 0 = some (0, 9) := rfl
theorem Ent.place1 : Ent.place 1 = some (9, 17) := rfl
attribute [go_sem ↓] Ent.ld Ent.st Ent.al Ent.bd Ent.eql Ent.neq
attribute [go_sem] Ent.arr_size Ent.arr_one Ent.row Ent.put Ent.row_key Ent.put_key Ent.row_val Ent.put_val Ent.zero_key Ent.zero_val Ent.place0 Ent.place1 Ent.load Ent.store Ent.alloc Ent.build Ent.eqG
theorem Ent.enc : EncOk Ent.arr 26 := ⟨Ent.arr_size, Ent.arr_one, by omega⟩

end Go.Proofs.Ytphojngdgmnpaaa

namespace Go.Proofs.Ytphojngdgmnpaaa
open Go Go.RowKit
set_option linter.unusedVariables false
set_option linter.unusedSimpArgs false
set_option maxRecDepth 100000

/-! ### []uint8 -/
theorem slT_bytes : SlT Try.prog 33 5 1 1 := SlT.mk' (z := .int .u8 0) Try.underlying33 (by kernel_rfl) rfl
theorem inf_bytes : (Try.prog.info? 5).map (·.size) = some 1 := by kernel_rfl
theorem sl_bytes (x : Value) (lo hi mx : Option Value) : Instr.sliceAt 33 x lo hi mx = slRow 33 x lo hi mx := slRow_eq _ _ _ _ _
theorem sl_bytes_hi (A : Option Addr) (len cap : Nat) (k : Int) (h0 : 0 ≤ k) (h1 : k ≤ cap) (w : World) : (slRow 33 (.slice A len cap) none (some (.int .i64 k)) none).run Try.prog w = .ok (.slice A k.toNat cap) w := run_sl_hi Try.underlying33 inf_bytes A len cap k h0 h1 w
theorem sl_bytes_lo (A : Option Addr) (len cap : Nat) (k : Int) (h0 : 0 ≤ k) (h1 : k ≤ len) (w : World) : (slRow 33 (.slice A len cap) (some (.int .i64 k)) none none).run Try.prog w = .ok (.slice (cutA cap k.toNat 1 A) (len - k.toNat) (cap - k.toNat)) w := run_sl_lo Try.underlying33 inf_bytes A len cap k h0 h1 w
theorem sl_bytes_lohi (A : Option Addr) (len cap : Nat) (i j : Int) (h0 : 0 ≤ i) (h1 : i ≤ j) (h2 : j ≤ cap) (w : World) : (slRow 33 (.slice A len cap) (some (.int .i64 i)) (some (.int .i64 j)) none).run Try.prog w = .ok (.slice (cutA cap i.toNat 1 A) (j.toNat - i.toNat) (cap - i.toNat)) w := run_sl_lohi Try.underlying33 inf_bytes A len cap i j h0 h1 h2 w
theorem sl_bytes_3 (A : Option Addr) (len cap : Nat) (i j m : Int) (h0 : 0 ≤ i) (h1 : i ≤ j) (h2 : j ≤ m) (h5 : m ≤ cap) (w : World) : (slRow 33 (.slice A len cap) (some (.int .i64 i)) (some (.int .i64 j)) (some (.int .i64 m))).run Try.prog w = .ok (.slice (cutA m.toNat i.toNat 1 A) (j.toNat - i.toNat) (m.toNat - i.toNat)) w := run_sl_3 Try.underlying33 inf_bytes A len cap i j m h0 h1 h2 h5 w
theorem sl_bytes_hi3 (A : Option Addr) (len cap : Nat) (j m : Int) (h1 : 0 ≤ j) (h2 : j ≤ m) (h5 : m ≤ cap) (w : World) : (slRow 33 (.slice A len cap) none (some (.int .i64 j)) (some (.int .i64 m))).run Try.prog w = .ok (.slice A j.toNat m.toNat) w := run_sl_hi3 Try.underlying33 inf_bytes A len cap j m h1 h2 h5 w
theorem sl_bytes_all (A : Option Addr) (len cap : Nat) (w : World) : (slRow 33 (.slice A len cap) none none none).run Try.prog w = .ok (.slice A len cap) w := run_sl_all Try.underlying33 inf_bytes A len cap w
attribute [go_sem ↓] sl_bytes
attribute [go_sem] sl_bytes_hi sl_bytes_lo sl_bytes_lohi sl_bytes_3 sl_bytes_hi3 sl_bytes_all
theorem cp_bytes_eq (ty : TypeId) (vs : Array Value) : Builtin.copy_ #[33, 33] ty vs = cpRow #[33, 33] ty vs := cpRow_eq _ _ _
theorem cp_bytes (w : World) (g o dLen dCap b off sLen sCap : Nat) (ty : TypeId) :
    (cpRow #[33, 33] ty #[.slice (some ⟨g, o, none⟩) dLen dCap, .slice (some ⟨b, off, none⟩) sLen sCap]).run Try.prog w =
      onCp (min sLen dLen) (row? w b off (min sLen dLen * 1)) ((row? w g o (min sLen dLen * 1)).isSome && free? w g) w g o ((cpRow' #[33, 33] ty #[.slice (some ⟨g, o, none⟩) dLen dCap, .slice (some ⟨b, off, none⟩) sLen sCap]).run Try.prog w) :=
  run_cpRow_on (P := Try.prog) (sT := 33) (ty := ty) (elem := 5) (n := 1) Try.underlying33 inf_bytes w g o dLen dCap b off sLen sCap
theorem cp_bytes_none (w : World) (d : Addr) (dLen dCap : Nat) (A : Option Addr) (c : Nat) (ty : TypeId) :
    (cpRow #[33, 33] ty #[.slice (some d) dLen dCap, .slice A 0 c]).run Try.prog w = .ok (.int .i64 0) w :=
  run_cpRow_none (P := Try.prog) (sT := 33) (ty := ty) (elem := 5) (n := 1) Try.underlying33 inf_bytes w d dLen dCap A c
attribute [go_sem ↓] cp_bytes_eq
attribute [go_sem] cp_bytes_none cp_bytes
/-! ### []int -/
theorem inf_ints : (Try.prog.info? 3).map (·.size) = some 1 := by kernel_rfl
theorem sl_ints (x : Value) (lo hi mx : Option Value) : Instr.sliceAt 22 x lo hi mx = slRow 22 x lo hi mx := slRow_eq _ _ _ _ _
theorem sl_ints_hi (A : Option Addr) (len cap : Nat) (k : Int) (h0 : 0 ≤ k) (h1 : k ≤ cap) (w : World) : (slRow 22 (.slice A len cap) none (some (.int .i64 k)) none).run Try.prog w = .ok (.slice A k.toNat cap) w := run_sl_hi Try.underlying22 inf_ints A len cap k h0 h1 w
theorem sl_ints_lo (A : Option Addr) (len cap : Nat) (k : Int) (h0 : 0 ≤ k) (h1 : k ≤ len) (w : World) : (slRow 22 (.slice A len cap) (some (.int .i64 k)) none none).run Try.prog w = .ok (.slice (cutA cap k.toNat 1 A) (len - k.toNat) (cap - k.toNat)) w := run_sl_lo Try.underlying22 inf_ints A len cap k h0 h1 w
theorem sl_ints_lohi (A : Option Addr) (len cap : Nat) (i j : Int) (h0 : 0 ≤ i) (h1 : i ≤ j) (h2 : j ≤ cap) (w : World) : (slRow 22 (.slice A len cap) (some (.int .i64 i)) (some (.int .i64 j)) none).run Try.prog w = .ok (.slice (cutA cap i.toNat 1 A) (j.toNat - i.toNat) (cap - i.toNat)) w := run_sl_lohi Try.underlying22 inf_ints A len cap i j h0 h1 h2 w
theorem sl_ints_3 (A : Option Addr) (len cap : Nat) (i j m : Int) (h0 : 0 ≤ i) (h1 : i ≤ j) (h2 : j ≤ m) (h5 : m ≤ cap) (w : World) : (slRow 22 (.slice A len cap) (some (.int .i64 i)) (some (.int .i64 j)) (some (.int .i64 m))).run Try.prog w = .ok (.slice (cutA m.toNat i.toNat 1 A) (j.toNat - i.toNat) (m.toNat - i.toNat)) w := run_sl_3 Try.underlying22 inf_ints A len cap i j m h0 h1 h2 h5 w
theorem sl_ints_hi3 (A : Option Addr) (len cap : Nat) (j m : Int) (h1 : 0 ≤ j) (h2 : j ≤ m) (h5 : m ≤ cap) (w : World) : (slRow 22 (.slice A len cap) none (some (.int .i64 j)) (some (.int .i64 m))).run Try.prog w = .ok (.slice A j.toNat m.toNat) w := run_sl_hi3 Try.underlying22 inf_ints A len cap j m h1 h2 h5 w
theorem sl_ints_all (A : Option Addr) (len cap : Nat) (w : World) : (slRow 22 (.slice A len cap) none none none).run Try.prog w = .ok (.slice A len cap) w := run_sl_all Try.underlying22 inf_ints A len cap w
attribute [go_sem ↓] sl_ints
attribute [go_sem] sl_ints_hi sl_ints_lo sl_ints_lohi sl_ints_3 sl_ints_hi3 sl_ints_all
theorem cp_ints_eq (ty : TypeId) (vs : Array Value) : Builtin.copy_ #[22, 22] ty vs = cpRow #[22, 22] ty vs := cpRow_eq _ _ _
theorem cp_ints (w : World) (g o dLen dCap b off sLen sCap : Nat) (ty : TypeId) :
    (cpRow #[22, 22] ty #[.slice (some ⟨g, o, none⟩) dLen dCap, .slice (some ⟨b, off, none⟩) sLen sCap]).run Try.prog w =
      onCp (min sLen dLen) (row? w b off (min sLen dLen * 1)) ((row? w g o (min sLen dLen * 1)).isSome && free? w g) w g o ((cpRow' #[22, 22] ty #[.slice (some ⟨g, o, none⟩) dLen dCap, .slice (some ⟨b, off, none⟩) sLen sCap]).run Try.prog w) :=
  run_cpRow_on (P := Try.prog) (sT := 22) (ty := ty) (elem := 3) (n := 1) Try.underlying22 inf_ints w g o dLen dCap b off sLen sCap
theorem cp_ints_none (w : World) (d : Addr) (dLen dCap : Nat) (A : Option Addr) (c : Nat) (ty : TypeId) :
    (cpRow #[22, 22] ty #[.slice (some d) dLen dCap, .slice A 0 c]).run Try.prog w = .ok (.int .i64 0) w :=
  run_cpRow_none (P := Try.prog) (sT := 22) (ty := ty) (elem := 3) (n := 1) Try.underlying22 inf_ints w d dLen dCap A c
attribute [go_sem ↓] cp_ints_eq
attribute [go_sem] cp_ints_none cp_ints
/-! ### []api.Key -/
/-! ### []api.Entry -/
theorem slT_entries : SlT Try.prog 74 97 26 40 := SlT.mk' (z := .agg Ent.zero.arr) Try.underlying74 (by rw [Ent.zero_arr]; kernel_rfl) (Ent.arr_size Ent.zero)
theorem inf_entries : (Try.prog.info? 97).map (·.size) = some 26 := by kernel_rfl
theorem sl_entries (x : Value) (lo hi mx : Option Value) : Instr.sliceAt 74 x lo hi mx = slRow 74 x lo hi mx := slRow_eq _ _ _ _ _
theorem sl_entries_hi (A : Option Addr) (len cap : Nat) (k : Int) (h0 : 0 ≤ k) (h1 : k ≤ cap) (w : World) : (slRow 74 (.slice A len cap) none (some (.int .i64 k)) none).run Try.prog w = .ok (.slice A k.toNat cap) w := run_sl_hi Try.underlying74 inf_entries A len cap k h0 h1 w
theorem sl_entries_lo (A : Option Addr) (len cap : Nat) (k : Int) (h0 : 0 ≤ k) (h1 : k ≤ len) (w : World) : (slRow 74 (.slice A len cap) (some (.int .i64 k)) none none).run Try.prog w = .ok (.slice (cutA cap k.toNat 26 A) (len - k.toNat) (cap - k.toNat)) w := run_sl_lo Try.underlying74 inf_entries A len cap k h0 h1 w
theorem sl_entries_lohi (A : Option Addr) (len cap : Nat) (i j : Int) (h0 : 0 ≤ i) (h1 : i ≤ j) (h2 : j ≤ cap) (w : World) : (slRow 74 (.slice A len cap) (some (.int .i64 i)) (some (.int .i64 j)) none).run Try.prog w = .ok (.slice (cutA cap i.toNat 26 A) (j.toNat - i.toNat) (cap - i.toNat)) w := run_sl_lohi Try.underlying74 inf_entries A len cap i j h0 h1 h2 w
theorem sl_entries_3 (A : Option Addr) (len cap : Nat) (i j m : Int) (h0 : 0 ≤ i) (h1 : i ≤ j) (h2 : j ≤ m) (h5 : m ≤ cap) (w : World) : (slRow 74 (.slice A len cap) (some (.int .i64 i)) (some (.int .i64 j)) (some (.int .i64 m))).run Try.prog w = .ok (.slice (cutA m.toNat i.toNat 26 A) (j.toNat - i.toNat) (m.toNat - i.toNat)) w := run_sl_3 Try.underlying74 inf_entries A len cap i j m h0 h1 h2 h5 w
theorem sl_entries_hi3 (A : Option Addr) (len cap : Nat) (j m : Int) (h1 : 0 ≤ j) (h2 : j ≤ m) (h5 : m ≤ cap) (w : World) : (slRow 74 (.slice A len cap) none (some (.int .i64 j)) (some (.int .i64 m))).run Try.prog w = .ok (.slice A j.toNat m.toNat) w := run_sl_hi3 Try.underlying74 inf_entries A len cap j m h1 h2 h5 w
theorem sl_entries_all (A : Option Addr) (len cap : Nat) (w : World) : (slRow 74 (.slice A len cap) none none none).run Try.prog w = .ok (.slice A len cap) w := run_sl_all Try.underlying74 inf_entries A len cap w
attribute [go_sem ↓] sl_entries
attribute [go_sem] sl_entries_hi sl_entries_lo sl_entries_lohi sl_entries_3 sl_entries_hi3 sl_entries_all
theorem cp_entries_eq (ty : TypeId) (vs : Array Value) : Builtin.copy_ #[74, 74] ty vs = cpRow #[74, 74] ty vs := cpRow_eq _ _ _
theorem cp_entries (w : World) (g o dLen dCap b off sLen sCap : Nat) (ty : TypeId) :
    (cpRow #[74, 74] ty #[.slice (some ⟨g, o, none⟩) dLen dCap, .slice (some ⟨b, off, none⟩) sLen sCap]).run Try.prog w =
      onCp (min sLen dLen) (row? w b off (min sLen dLen * 26)) ((row? w g o (min sLen dLen * 26)).isSome && free? w g) w g o ((cpRow' #[74, 74] ty #[.slice (some ⟨g, o, none⟩) dLen dCap, .slice (some ⟨b, off, none⟩) sLen sCap]).run Try.prog w) :=
  run_cpRow_on (P := Try.prog) (sT := 74) (ty := ty) (elem := 97) (n := 26) Try.underlying74 inf_entries w g o dLen dCap b off sLen sCap
theorem cp_entries_none (w : World) (d : Addr) (dLen dCap : Nat) (A : Option Addr) (c : Nat) (ty : TypeId) :
    (cpRow #[74, 74] ty #[.slice (some d) dLen dCap, .slice A 0 c]).run Try.prog w = .ok (.int .i64 0) w :=
  run_cpRow_none (P := Try.prog) (sT := 74) (ty := ty) (elem := 97) (n := 26) Try.underlying74 inf_entries w d dLen dCap A c
attribute [go_sem ↓] cp_entries_eq
attribute [go_sem] cp_entries_none cp_entries
theorem bs_entries (m : Nat) (ps : Array (Nat × Value)) : Instr.buildSlice 74 (m + 1) ps = bsRow 74 (m + 1) ps := bsRow_eq _ _ _
theorem bs_entries_1 (x : Ent) (w : World) : (bsRow 74 1 #[(0, .agg (Ent.arr x))]).run Try.prog w = .ok (.slice (some ⟨w.heap.size, 0, none⟩) 1 1) (w.alloc (.cells (Ent.arr x) 97)) := by
  have := run_bsRow_list slT_entries Ent.enc [x] (by simp) (by simp) _ rfl w
  rw [flat_single] at this
  exact this
theorem bs_entries_2 (x y : Ent) (w : World) : (bsRow 74 2 #[(0, .agg (Ent.arr x)), (1, .agg (Ent.arr y))]).run Try.prog w = .ok (.slice (some ⟨w.heap.size, 0, none⟩) 2 2) (w.alloc (.cells (flat Ent.arr [x, y]).toArray 97)) :=
  run_bsRow_list slT_entries Ent.enc [x, y] (by simp) (by simp) _ rfl w
attribute [go_sem ↓] bs_entries
attribute [go_sem] bs_entries_1 bs_entries_2
/-! ### []api.Msg -/
end Go.Proofs.Ytphojngdgmnpaaa

namespace Go.Proofs.Ytphojngdgmnpaaa
open Go Go.RowKit
set_option linter.unusedVariables false
set_option linter.unusedSimpArgs false
set_option maxRecDepth 100000

def intA (n : Int) : AV := .v (.int .i64 n)
def boolA (b : Bool) : AV := .v (.bool b)
def byteA (x : BitVec 8) : AV := .v (.int .u8 (B8 x))
def u64A (x : BitVec 64) : AV := .v (.int .u64 (D64 x))
def vecA {n : Nat} (b : Vector (BitVec 8) n) : AV := .arr n 1 (b.toList.map byteA)
def Key.av (k : Key) : AV := .agg 9 [intA k.n, vecA k.b]
def Vl.av (k : Vl) : AV := .agg 17 [intA k.n, vecA k.b]
def Msg.av (m : Msg) : AV := .agg 29 [intA m.kind, u64A m.seq, m.key.av, m.val.av, u64A m.add]
def Ent.av (e : Ent) : AV := .agg 26 [e.key.av, e.val.av]
section
variable {U : Uns} {w : World} {B : Blk} {H : Hp}
theorem rd_v {x : Value} {c : List Value} (h : plain x = true) : Rd U w (.v x) B H c ↔ c = [x] := by simp [Rd, h]
theorem rdu_bytes : ∀ (l : List (BitVec 8)) {B : Blk} {H : Hp} {c : List Value}, Rdu U w 1 (l.map byteA) B H c ↔ c = l.map fun x => Value.int .u8 (B8 x)
  | [], _, _, c => by simp [Rdu]
  | x :: l, _, _, c => by
    simp only [List.map_cons, Rdu, byteA]
    constructor
    · rintro ⟨c1, c2, rfl, _, h1, h2⟩
      rw [rd_v rfl] at h1
      rw [rdu_bytes l] at h2
      rw [h1, h2]; rfl
    · rintro rfl
      exact ⟨[_], _, rfl, rfl, by rw [rd_v rfl], (rdu_bytes l).2 rfl⟩
theorem rd_vec {n : Nat} {b : Vector (BitVec 8) n} {c : List Value} : Rd U w (vecA b) B H c ↔ c = (bArr b).toList := by
  have e : (bArr b).toList = b.toList.map fun x => Value.int .u8 (B8 x) := by rw [bArr_def]; simp; rfl
  simp only [vecA, Rd, rdu_bytes, e]
  constructor
  · exact fun h => h.2
  · rintro rfl; simp
theorem rds_cons {x : AV} {xs : List AV} {c : List Value} {r1 r2 : List Value} (h1 : ∀ c, Rd U w x B H c ↔ c = r1) (h2 : ∀ c, Rds U w xs B H c ↔ c = r2) : Rds U w (x :: xs) B H c ↔ c = r1 ++ r2 := by
  simp only [Rds, h1, h2]
  constructor
  · rintro ⟨c1, c2, rfl, rfl, rfl⟩; rfl
  · rintro rfl; exact ⟨_, _, rfl, rfl, rfl⟩
theorem rds_nil {c : List Value} : Rds U w [] B H c ↔ c = [] := by simp [Rds]
theorem rd_agg {n : Nat} {fs : List AV} {c r : List Value} (hr : r.length = n) (h : Rds U w fs B H c ↔ c = r) : Rd U w (.agg n fs) B H c ↔ c = r := by
  simp only [Rd, h]
  exact ⟨fun h => h.2, fun h => ⟨by rw [h]; exact hr, h⟩⟩
theorem cat_list (a b : Array Value) : (cat a b).toList = a.toList ++ b.toList := by rw [cat_def]; simp
theorem cel_list (v : Value) : (cel v).toList = [v] := by rw [cel_def]
theorem Key.rd {k : Key} {c : List Value} : Rd U w k.av B H c ↔ c = k.arr.toList := by
  refine rd_agg (by have := k.arr_size; simpa using this) ((rds_cons (fun c => rd_v rfl) fun c => rds_cons (fun c => rd_vec) fun c => rds_nil).trans ?_)
  rw [Key.arr_def]; simp [cat_list, cel_list]
theorem Vl.rd {k : Vl} {c : List Value} : Rd U w k.av B H c ↔ c = k.arr.toList := by
  refine rd_agg (by have := k.arr_size; simpa using this) ((rds_cons (fun c => rd_v rfl) fun c => rds_cons (fun c => rd_vec) fun c => rds_nil).trans ?_)
  rw [Vl.arr_def]; simp [cat_list, cel_list]
theorem Msg.rd {m : Msg} {c : List Value} : Rd U w m.av B H c ↔ c = m.arr.toList := by
  refine rd_agg (by have := m.arr_size; simpa using this) ((rds_cons (fun c => rd_v rfl) fun c => rds_cons (fun c => rd_v rfl) fun c => rds_cons (fun c => Key.rd) fun c => rds_cons (fun c => Vl.rd) fun c => rds_cons (fun c => rd_v rfl) fun c => rds_nil).trans ?_)
  rw [Msg.arr_def]; simp [cat_list, cel_list]
theorem Ent.rd {m : Ent} {c : List Value} : Rd U w m.av B H c ↔ c = m.arr.toList := by
  refine rd_agg (by have := m.arr_size; simpa using this) ((rds_cons (fun c => Key.rd) fun c => rds_cons (fun c => Vl.rd) fun c => rds_nil).trans ?_)
  rw [Ent.arr_def]; simp [cat_list]
end
/-- a type of plain data: how it reads, as a value and as cells -/
structure DT (α : Type) where
  t : TypeId
  n : Nat
  av : α → AV
  arr : α → Array Value
  rd : ∀ {U : Uns} {w : World} {B : Blk} {H : Hp} {x : α} {c : List Value}, Rd U w (av x) B H c ↔ c = (arr x).toList
  agg : ∀ x, isAggA (av x) = true
  enc : EncOk arr n
def dKey : DT Key := ⟨93, 9, Key.av, Key.arr, Key.rd, fun _ => rfl, Key.enc⟩
def dVl : DT Vl := ⟨42, 17, Vl.av, Vl.arr, Vl.rd, fun _ => rfl, ⟨Vl.arr_size, Vl.arr_one, by omega⟩⟩
def dMsg : DT Msg := ⟨112, 29, Msg.av, Msg.arr, Msg.rd, fun _ => rfl, ⟨Msg.arr_size, Msg.arr_one, by omega⟩⟩
def dEnt : DT Ent := ⟨97, 26, Ent.av, Ent.arr, Ent.rd, fun _ => rfl, ⟨Ent.arr_size, Ent.arr_one, by omega⟩⟩
section
variable {α : Type} (D : DT α) {U : Uns} {w : World} {B : Blk} {H : Hp}
theorem DT.pack {x : α} {c : List Value} (h : Rd U w (D.av x) B H c) : pack (D.av x) c = .agg (D.arr x) := by
  rw [(Rd_pack h).1 (D.agg x)]
  rw [D.rd] at h
  rw [h]
theorem DT.rdv {x : α} {v : Value} : Rdv U w B H (D.av x) v ↔ v = .agg (D.arr x) := by
  rw [Rdv_not (by intro xs e; have := D.agg x; rw [e] at this; cases this)]
  constructor
  · rintro ⟨c, h1, h2⟩; rw [h2, D.pack h1]
  · rintro rfl
    have h : Rd U w (D.av x) B H (D.arr x).toList := D.rd.2 rfl
    exact ⟨_, h, (D.pack h).symm⟩
theorem DT.rdu : ∀ (xs : List α) {c : List Value}, Rdu U w D.n (xs.map D.av) B H c ↔ c = flat D.arr xs
  | [], c => by simp [Rdu, flat]
  | x :: xs, c => by
    have e : flat D.arr (x :: xs) = (D.arr x).toList ++ flat D.arr xs := rfl
    simp only [List.map_cons, Rdu, D.rd, DT.rdu xs, e]
    constructor
    · rintro ⟨c1, c2, rfl, _, rfl, rfl⟩; rfl
    · rintro rfl; exact ⟨_, _, rfl, by have := D.enc.size x; simpa using this, rfl, rfl⟩
end
/-- a slice, as the contracts over the world have it -/
theorem sl_gen {α : Type} {av : α → AV} {arr : α → Array Value} {n : Nat} (enc : EncOk arr n) {U : Uns} {w : World} {B : Blk} {H : Hp} (hrdu : ∀ (xs : List α) {c : List Value}, Rdu U w n (xs.map av) B0 H0 c ↔ c = flat arr xs) {tok : Option Nat} {xs : List α} {v : Value} (h : Rd U w (.sl tok n (xs.map av)) B H [v]) : Sl arr n w v xs := by
  simp only [Rd, List.length_map] at h
  obtain ⟨A, cap, h1, h2, h3, h4, _⟩ := h
  injection h1 with h1
  refine ⟨A, cap, h1, h2, h3, fun h0 => ?_⟩
  obtain ⟨b, off, c, k1, k2, k3, k4⟩ := h4 h0
  rw [hrdu] at k4
  subst k4
  refine ⟨b, off, k1, row_lt k2, fun i hi => ?_⟩
  have hn : i * n + n ≤ xs.length * n := by rw [← Nat.succ_mul]; exact Nat.mul_le_mul_right _ hi
  rw [row_sub k2 (i * n) n hn]
  unfold rowOf
  have hl := flat_length enc xs
  rw [if_pos (by simp [hl]; exact hn)]
  congr 1
  apply Array.ext_getElem?
  intro k
  rw [Array.getElem?_extract]
  by_cases hk : k < n
  · rw [if_pos (by simp [hl]; omega)]
    have := flat_get enc xs i k hi hk
    simpa using this
  · rw [if_neg (by omega), Array.getElem?_eq_none (by have := enc.size xs[i]; omega)]
theorem rdu_cells {α : Type} {av : α → AV} {cell : α → Value} (h : ∀ x, av x = .v (cell x)) (hp : ∀ x, plain (cell x) = true) {U : Uns} {w : World} {B : Blk} {H : Hp} : ∀ (xs : List α) {c : List Value}, Rdu U w 1 (xs.map av) B H c ↔ c = xs.map cell
  | [], c => by simp [Rdu]
  | x :: l, c => by
    simp only [List.map_cons, Rdu, h]
    constructor
    · rintro ⟨c1, c2, rfl, _, h1, h2⟩
      rw [rd_v (hp x)] at h1
      rw [rdu_cells h hp l] at h2
      rw [h1, h2]; rfl
    · rintro rfl
      exact ⟨[_], _, rfl, rfl, by rw [rd_v (hp x)], (rdu_cells h hp l).2 rfl⟩
theorem flat_cells {α : Type} {arr : α → Array Value} {cell : α → Value} (h : ∀ x, arr x = #[cell x]) : ∀ xs : List α, flat arr xs = xs.map cell
  | [] => rfl
  | x :: l => by
    have e : flat arr (x :: l) = (arr x).toList ++ flat arr l := rfl
    rw [e, h, flat_cells h l]; rfl
theorem sl_bytes_of {U : Uns} {w : World} {B : Blk} {H : Hp} {tok : Option Nat} {xs : List (BitVec 8)} {v : Value} (h : Rdv U w B H (.sl tok 1 (xs.map byteA)) v) : Sl be 1 w v xs :=
  sl_gen be_ok (fun xs c => by rw [flat_cells (arr := be) (cell := fun x => Value.int .u8 (B8 x)) (fun _ => rfl)]; exact rdu_cells (cell := fun x => .int .u8 (B8 x)) (fun _ => rfl) (fun _ => rfl) xs) (Rdv_one (by simp) h rfl)
theorem zero_of {t : TypeId} {z : AV} {v : Value} {n : Nat} (h : (Try.prog.info? t).map (fun i => (i.zero, i.size)) = some (some v, n)) (hr : ∀ U w, Rd U w z B0 H0 v.cells.toList) : ZeroOk Try.prog t z := by
  cases hi : Try.prog.info? t with
  | none => rw [hi] at h; cases h
  | some i =>
    rw [hi] at h
    simp only [Option.map_some, Option.some.injEq, Prod.mk.injEq] at h
    exact ⟨i, v, hi, h.1, hr⟩
theorem zero_Key : ZeroOk Try.prog 93 Key.zero.av := zero_of Key.info fun U w => Key.rd.2 rfl
theorem zero_Vl : ZeroOk Try.prog 42 Vl.zero.av := zero_of Vl.info fun U w => Vl.rd.2 rfl
theorem zero_Msg : ZeroOk Try.prog 112 Msg.zero.av := zero_of Msg.info fun U w => Msg.rd.2 rfl
theorem zero_Ent : ZeroOk Try.prog 97 Ent.zero.av := zero_of Ent.info fun U w => Ent.rd.2 rfl
theorem zero_int : ZeroOk Try.prog 3 (intA 0) := zero_of (v := .int .i64 0) (n := 1) (by kernel_rfl) fun U w => (rd_v rfl).2 rfl
theorem zero_byte : ZeroOk Try.prog 5 (byteA 0#8) := zero_of (v := .int .u8 0) (n := 1) (by kernel_rfl) fun U w => (rd_v rfl).2 (by rw [B8_zero]; rfl)
theorem zero_slints : ZeroOk Try.prog 22 (.v (.slice none 0 0)) := zero_of (v := .slice none 0 0) (n := 1) (by kernel_rfl) fun U w => (rd_v rfl).2 rfl
theorem rdp_one {U : Uns} {w : World} {B : Blk} {H : Hp} {x : AV} {xs : List AV} {vs : List Value} (h : Rdp U w (x :: xs) B H vs) : ∃ v us, vs = v :: us ∧ Rdv U w B H x v ∧ Rdp U w xs B H us := by
  simp only [Rdp] at h
  obtain ⟨c, us, rfl, h1, h2⟩ := h
  exact ⟨_, us, rfl, by rw [Rdv_not (Rd_notup h1)]; exact ⟨c, h1, rfl⟩, h2⟩
theorem rdp_nil {U : Uns} {w : World} {B : Blk} {H : Hp} {vs : List Value} (h : Rdp U w [] B H vs) : vs = [] := by simpa [Rdp] using h
theorem is_v {U : Uns} {w w' : World} {x : Value} (h : plain x = true) : Rdv U w' B0 H0 (.v x) x := Rdv_v.2 ⟨h, rfl⟩
theorem ofIs {P : Program} {f : FuncId} {vs : Array Value} {w : World} {r : AV} {x : Value} {U : Uns} (h : Calls P f vs w (Is w x)) (hr : ∀ w', Rdv (fun b o => b < w.heap.size ∧ U b o) w' B0 H0 r x) :
    Calls P f vs w fun e w' => ∃ v, e = .returned v ∧ Rdv (fun b o => b < w.heap.size ∧ U b o) w' B0 H0 r v ∧ Ext w w' :=
  h.mono fun e w' ⟨h1, h2⟩ => ⟨x, h1, hr w', h2⟩
end Go.Proofs.Ytphojngdgmnpaaa

namespace Go.Proofs.Ytphojngdgmnpaaa
open Go Go.RowKit
set_option linter.unusedVariables false
set_option linter.unusedSimpArgs false
set_option maxRecDepth 100000

section
variable {P : Program} {E : Env} {nt : Nat} {S : St} {Q : Exit → St → Prop} {K : St → Prop}
theorem thenA_n (h : K S) : thenA K Q .normal S := h
theorem thenA_r (h : Q .ret S) : thenA K Q .ret S := h
theorem thenA_e {i : Nat} (h : Q (.exit i) S) : thenA K Q (.exit i) S := h
theorem blockA_n {i : Nat} (h : Q .normal S) : inBlockA i Q .normal S := h
theorem blockA_r {i : Nat} (h : Q .ret S) : inBlockA i Q .ret S := h
theorem blockA_h {i : Nat} (h : Q .normal S) : inBlockA i Q (.exit i) S := by simp only [inBlockA, if_true]; exact h
theorem blockA_e {i j : Nat} (hn : Nat.beq j i = false) (h : Q (.exit j) S) : inBlockA i Q (.exit j) S := by
  have : j ≠ i := fun e => by subst e; simp at hn
  simp only [inBlockA, if_neg this]; exact h
theorem scopeA_n (h : Q .normal S) : noGotoA Q .normal S := h
theorem scopeA_r (h : Q .ret S) : noGotoA Q .ret S := h
theorem scopeA_e {i : Nat} (h : Q (.exit i) S) : noGotoA Q (.exit i) S := h
theorem AW_reg {id : Nat} {l : List Oper} (h : AWops P E nt l.toArray l S [] (fun S' _ => Q .normal S')) : AW P E nt (.region id l.toArray false) S Q := AW_region (by simpa using h)
theorem AW_drw {id : Nat} {l : List Oper} (hm : P.follows .mixedOrders = true) (h : AWops P E nt l.toArray l S [] (fun S' rs => orderOk l.toArray rs = true ∧ Q .normal S')) : AW P E nt (.region id l.toArray true) S Q := AW_draw hm (by simpa using h)
theorem AW_is {c : Operand} {x y : Code} {b : Bool} (v : Bool) (hc : evalO S.t c = some (.v (.bool b))) (hb : b = v) (h : AW P E nt (if v then x else y) S Q) : AW P E nt (.cond c x y) S Q := by
  subst hb; exact AW_cond b hc (fun e => by subst e; exact h) (fun e => by subst e; exact h)
end
/-- a test's way, by what it came to -/
def CondB (P : Program) (E : Env) (nt : Nat) (b : Bool) (x y : Code) (S : St) (Q : Exit → St → Prop) : Prop := AW P E nt (if b then x else y) S Q
section
variable {P : Program} {E : Env} {nt : Nat} {S : St} {Q : Exit → St → Prop} {x y : Code}
theorem AW_c {c : Operand} {b : Bool} (hc : evalO S.t c = some (.v (.bool b))) (h : CondB P E nt b x y S Q) : AW P E nt (.cond c x y) S Q := AW_is b hc rfl h
theorem cb_t (h : AW P E nt x S Q) : CondB P E nt true x y S Q := h
theorem cb_f (h : AW P E nt y S Q) : CondB P E nt false x y S Q := h
theorem cb_yes {p : Prop} [Decidable p] (hp : p) (h : AW P E nt x S Q) : CondB P E nt (decide p) x y S Q := by
  unfold CondB; rw [decide_eq_true hp]; exact h
theorem cb_no {p : Prop} [Decidable p] (hp : ¬ p) (h : AW P E nt y S Q) : CondB P E nt (decide p) x y S Q := by
  unfold CondB; rw [decide_eq_false hp]; exact h
theorem cb_is {b : Bool} (v : Bool) (hb : b = v) (h : CondB P E nt v x y S Q) : CondB P E nt b x y S Q := by subst hb; exact h
end
attribute [local irreducible] OpOK
theorem mixed : Try.prog.follows .mixedOrders = true := by kernel_rfl
section
variable {E : Env} {nt : Nat} {ops : Array Oper} {T : Nat → Option AV} {H : Hp} {d : Option Nat} {ty : TypeId} {pos : String} {af : Array Edge} {gd : Option (Nat × Bool)}
theorem o_len {x : Operand} {t e es bytes : Nat} {ea : Bool} {tok : Option Nat} {n : Nat} {xs : List AV} (hs : tabT.ti t = some (.sl e es bytes ea)) (hd : dOk nt d = true) (hx : evalO T x = some (.sl tok n xs)) :
    OpOK Try.prog E nt ops ⟨d, .call { callee := .builtin .len, args := #[x], argTypes := #[t] }, ty, pos, af, gd⟩ T H [] ⟨.v (.int .i64 xs.length), []⟩ := ok_len (tabT.ok t _ hs).2.1 hd hx
theorem o_lenm {α : Type} {f : α → AV} {x : Operand} {t e es bytes : Nat} {ea : Bool} {tok : Option Nat} {n : Nat} {xs : List α} (hs : tabT.ti t = some (.sl e es bytes ea)) (hd : dOk nt d = true) (hx : evalO T x = some (.sl tok n (xs.map f))) :
    OpOK Try.prog E nt ops ⟨d, .call { callee := .builtin .len, args := #[x], argTypes := #[t] }, ty, pos, af, gd⟩ T H [] ⟨.v (.int .i64 xs.length), []⟩ := by
  have := o_len (E := E) (ops := ops) (H := H) (ty := ty) (pos := pos) (af := af) (gd := gd) hs hd hx
  rwa [List.length_map] at this
theorem o_len0 {x : Operand} {t e es bytes : Nat} {ea : Bool} (hs : tabT.ti t = some (.sl e es bytes ea)) (hd : dOk nt d = true) (hx : evalO T x = some (.v (.slice none 0 0))) :
    OpOK Try.prog E nt ops ⟨d, .call { callee := .builtin .len, args := #[x], argTypes := #[t] }, ty, pos, af, gd⟩ T H [] ⟨.v (.int .i64 0), []⟩ := ok_len_nil (tabT.ok t _ hs).2.1 hd hx
theorem o_lens {x : Operand} {t e es bytes : Nat} {ea : Bool} {g off n len cap : Nat} {p : List Nat} (hs : tabT.ti t = some (.sl e es bytes ea)) (hd : dOk nt d = true) (hx : evalO T x = some (.seg g off n p len cap)) :
    OpOK Try.prog E nt ops ⟨d, .call { callee := .builtin .len, args := #[x], argTypes := #[t] }, ty, pos, af, gd⟩ T H [] ⟨.v (.int .i64 len), []⟩ := ok_len_seg (tabT.ok t _ hs).2.1 hd hx
theorem o_lent {x : Operand} {s : ByteArray} (hd : dOk nt d = true) (hx : evalO T x = some (.v (.string s))) :
    OpOK Try.prog E nt ops ⟨d, .call { callee := .builtin .len, args := #[x], argTypes := #[9] }, ty, pos, af, gd⟩ T H [] ⟨.v (.int .i64 s.size), []⟩ := ok_len_str Try.underlying9 hd hx
theorem o_add {t t' : TypeId} {x y : Operand} {a b : Int} (hd : dOk nt d = true) (hx : evalO T x = some (.v (.int .i64 a))) (hy : evalO T y = some (.v (.int .i64 b))) (h : -9223372036854775808 ≤ a + b ∧ a + b ≤ 9223372036854775807) : OpOK Try.prog E nt ops ⟨d, .binOp .add t x y t', ty, pos, af, gd⟩ T H [] ⟨.v (.int .i64 (a + b)), []⟩ := ok_add hd hx hy (i64_add h)
theorem o_add1 {t t' : TypeId} {x y : Operand} {a : Nat} (hd : dOk nt d = true) (hx : evalO T x = some (.v (.int .i64 (a : Nat)))) (hy : evalO T y = some (.v (.int .i64 1))) (h : a + 1 ≤ 9223372036854775807) : OpOK Try.prog E nt ops ⟨d, .binOp .add t x y t', ty, pos, af, gd⟩ T H [] ⟨.v (.int .i64 ((a + 1 : Nat) : Int)), []⟩ := o_add hd hx hy (by omega)
theorem o_addn {t t' : TypeId} {x y : Operand} {a b : Nat} (hd : dOk nt d = true) (hx : evalO T x = some (.v (.int .i64 (a : Nat)))) (hy : evalO T y = some (.v (.int .i64 (b : Nat)))) (h : a + b ≤ 9223372036854775807) : OpOK Try.prog E nt ops ⟨d, .binOp .add t x y t', ty, pos, af, gd⟩ T H [] ⟨.v (.int .i64 ((a + b : Nat) : Int)), []⟩ := o_add hd hx hy (by omega)
theorem o_sub {t t' : TypeId} {x y : Operand} {a b : Int} (hd : dOk nt d = true) (hx : evalO T x = some (.v (.int .i64 a))) (hy : evalO T y = some (.v (.int .i64 b))) (h : -9223372036854775808 ≤ a - b ∧ a - b ≤ 9223372036854775807) : OpOK Try.prog E nt ops ⟨d, .binOp .sub t x y t', ty, pos, af, gd⟩ T H [] ⟨.v (.int .i64 (a - b)), []⟩ := ok_sub hd hx hy (i64_sub h)
theorem o_mul {t t' : TypeId} {x y : Operand} {a b : Int} (hd : dOk nt d = true) (hx : evalO T x = some (.v (.int .i64 a))) (hy : evalO T y = some (.v (.int .i64 b))) (h : -9223372036854775808 ≤ a * b ∧ a * b ≤ 9223372036854775807) : OpOK Try.prog E nt ops ⟨d, .binOp .mul t x y t', ty, pos, af, gd⟩ T H [] ⟨.v (.int .i64 (a * b)), []⟩ := ok_mul hd hx hy (i64_mul h)
theorem o_quo {t t' : TypeId} {x y : Operand} {a b : Int} (hd : dOk nt d = true) (hx : evalO T x = some (.v (.int .i64 a))) (hy : evalO T y = some (.v (.int .i64 b))) (h : 0 ≤ a ∧ a ≤ 9223372036854775807 ∧ 1 ≤ b) : OpOK Try.prog E nt ops ⟨d, .binOp .quo t x y t', ty, pos, af, gd⟩ T H [] ⟨.v (.int .i64 (a / b)), []⟩ := ok_quo hd hx hy (by omega) (i64_quo h)
theorem o_rem {t t' : TypeId} {x y : Operand} {a b : Int} (hd : dOk nt d = true) (hx : evalO T x = some (.v (.int .i64 a))) (hy : evalO T y = some (.v (.int .i64 b))) (h : 0 ≤ a ∧ 1 ≤ b) : OpOK Try.prog E nt ops ⟨d, .binOp .rem t x y t', ty, pos, af, gd⟩ T H [] ⟨.v (.int .i64 (a % b)), []⟩ := ok_rem hd hx hy (by omega) (i64_rem h.1)
theorem o_box {e : TypeId} {x : Operand} {z : AV} {g : Nat} (hd : dOk nt (some g) = true) (hx : evalO T x = some z) (hnt : notTup z = true) (hg : H g = none) : OpOK Try.prog E nt ops ⟨some g, .box e x, ty, pos, af, gd⟩ T H [] ⟨.ptr g 0 [], [(g, .var z)]⟩ := ok_box hd hx hnt hg


theorem o_alloc {e : TypeId} {z : AV} {g : Nat} (hz : ZeroOk Try.prog e z) (hd : dOk nt (some g) = true) (hg : H g = none) : OpOK Try.prog E nt ops ⟨some g, .alloc e, ty, pos, af, gd⟩ T H [] ⟨.ptr g 0 [], [(g, .var z)]⟩ := by
  have h := @ok_alloc Try.prog E nt ops T H (some g) ty pos af gd e z g hd hz hg
  with_reducible exact h
/-- an element of a slice that is a list's image -/
theorem o_idx {α : Type} {f : α → AV} {x ix : Operand} {t e : TypeId} {es bytes : Nat} {ea : Bool} {tok : Option Nat} {xs : List α} {k : IntKind} {i : Nat} (hd : dOk nt d = true) (hs : tabT.ti t = some (.sl e es bytes ea)) (hx : evalO T x = some (.sl tok es (xs.map f))) (hi : evalO T ix = some (.v (.int k (i : Nat))))
    (hl : i < xs.length) : OpOK Try.prog E nt ops ⟨d, .indexAddr t x ix, ty, pos, af, gd⟩ T H [] ⟨.ref (f xs[i]), []⟩ :=
  ok_idx_sl tabT hd hs hx hi (Int.natCast_nonneg i) (by simp [hl])
theorem o_idxi {α : Type} {f : α → AV} {x ix : Operand} {t e : TypeId} {es bytes : Nat} {ea : Bool} {tok : Option Nat} {xs : List α} {k : IntKind} {n : Int} (i : Nat) (hd : dOk nt d = true) (hs : tabT.ti t = some (.sl e es bytes ea)) (hx : evalO T x = some (.sl tok es (xs.map f))) (hi : evalO T ix = some (.v (.int k n)))
    (hn : n = (i : Int)) (hl : i < xs.length) : OpOK Try.prog E nt ops ⟨d, .indexAddr t x ix, ty, pos, af, gd⟩ T H [] ⟨.ref (f xs[i]), []⟩ := by
  subst hn; exact o_idx hd hs hx hi hl
end
theorem wkl0 {H : Hp} : WkL H [] [] := .nil
theorem wkd {H : Hp} {x : AV} {xs ys : List AV} (hx : dataA x = true) (h : WkL H xs ys) : WkL H (x :: xs) (x :: ys) := .cons (Wk.data hx) h
theorem wkt {H : Hp} {t : Option Nat} {n : Nat} {zs : List AV} {xs ys : List AV} (h : WkL H xs ys) : WkL H (.sl t n zs :: xs) (.sl none n zs :: ys) := .cons Wk.tok h
theorem wkn {H : Hp} {n : Nat} {xs ys : List AV} (h : WkL H xs ys) : WkL H (.v (.slice none 0 0) :: xs) (.sl none n [] :: ys) := .cons Wk.nil h
section
variable {E : Env} {nt : Nat} {ops : Array Oper} {T : Nat → Option AV} {H : Hp} {d : Option Nat} {ty : TypeId} {pos : String} {af : Array Edge} {gd : Option (Nat × Bool)}
theorem o_call0 {f : FuncId} {fn : Func} {l : List Operand} {ats : Array TypeId} {xs ys : List AV} {y : AV} (hf : Try.prog.funcs[f]? = some fn) (hc : AFn Try.prog f ys y) (hb : fn.body.isSome = true) (hnm : (fn.name == "runtime.NumGoroutine") = false) (hd : dOk nt d = true)
    (hx : l.map (evalO T) = xs.map some) (hw : ∀ H', WkL H' xs ys) (hnt : xs.all notTup = true) : OpOK Try.prog E nt ops ⟨d, .call { callee := .value (.func f), args := l.toArray, argTypes := ats }, ty, pos, af, gd⟩ T H [] ⟨y, []⟩ :=
  ok_call hd hf hb hnm (by simpa using hx) hc hw hnt
def argsA (T : Nat → Option AV) : List Operand → Option (List AV)
  | [] => some []
  | x :: l => match evalO T x, argsA T l with
    | some v, some vs => some (v :: vs)
    | _, _ => none
theorem argsA_map {T : Nat → Option AV} : ∀ {l : List Operand} {xs : List AV}, argsA T l = some xs → l.map (evalO T) = xs.map some
  | [], xs, h => by simp only [argsA] at h; injection h with h; subst h; rfl
  | x :: l, xs, h => by
    simp only [argsA] at h
    split at h
    · rename_i v vs h1 h2
      injection h with h; subst h
      simp only [List.map_cons, h1, argsA_map h2]
    · cases h
theorem o_call {f : FuncId} {fn : Func} {l : List Operand} {ats : Array TypeId} {xs ys : List AV} {y : AV} (hf : Try.prog.funcs[f]? = some fn) (hc : AFn Try.prog f ys y) (hb : fn.body.isSome = true) (hnm : (fn.name == "runtime.NumGoroutine") = false) (hd : dOk nt d = true)
    (hx : argsA T l = some xs) (hw : ∀ H', WkL H' xs ys) (hnt : xs.all notTup = true) : OpOK Try.prog E nt ops ⟨d, .call { callee := .value (.func f), args := l.toArray, argTypes := ats }, ty, pos, af, gd⟩ T H [] ⟨y, []⟩ := o_call0 hf hc hb hnm hd (argsA_map hx) hw hnt
end
section
variable {E : Env} {nt : Nat} {ops : Array Oper} {T : Nat → Option AV} {H : Hp} {d : Option Nat} {ty : TypeId} {pos : String} {af : Array Edge} {gd : Option (Nat × Bool)}
theorem o_minn {x y : Operand} {t t' : TypeId} {k : IntKind} {p q : Nat} (hd : dOk nt d = true) (hx : evalO T x = some (.v (.int k (p : Nat)))) (hy : evalO T y = some (.v (.int k (q : Nat)))) :
    OpOK Try.prog E nt ops ⟨d, .call { callee := .builtin .min, args := #[x, y], argTypes := #[t, t'] }, ty, pos, af, gd⟩ T H [] ⟨.v (.int k (min p q : Nat)), []⟩ := by
  have h := ok_min (P := Try.prog) (E := E) (ops := ops) (H := H) (ty := ty) (pos := pos) (af := af) (gd := gd) (t := t) (t' := t') hd hx hy
  have e : (if (q : Int) < p then (q : Int) else p) = ((min p q : Nat) : Int) := by split <;> omega
  rwa [e] at h
end
/-- where a walk stands (for looking alone) -/
def StuckOp (T : List (Nat × AV)) (H : List (Nat × Bx)) (o : Op) (gd : Option (Nat × Bool)) : Prop := False
def StuckC (b : Bool) (S : St) : Prop := False
def StuckW (S : St) : Prop := False
theorem b_nt : true = !false := rfl
theorem b_nf : false = !true := rfl
section
variable {E : Env} {nt : Nat} {ops : Array Oper} {T : Nat → Option AV} {H : Hp} {d : Option Nat} {ty : TypeId} {pos : String} {af : Array Edge} {gd : Option (Nat × Bool)}
theorem o_eqd {α : Type} [DecidableEq α] (D : DT α) (heq : ∀ (a b : α) (w : World), (binOp .eql D.t (.agg (D.arr a)) (.agg (D.arr b))).run Try.prog w = .ok (.bool (decide (a = b))) w) (hg : Try.prog.eqGuardType Try.prog.depth D.t = false) {t' : TypeId} {x y : Operand} {a b : α} (hd : dOk nt d = true) (hx : evalO T x = some (D.av a)) (hy : evalO T y = some (D.av b)) :
    OpOK Try.prog E nt ops ⟨d, .binOp .eql D.t x y t', ty, pos, af, gd⟩ T H [] ⟨.v (.bool (decide (a = b))), []⟩ :=
  ok_val hd fun B T' H' A w r ht hh => ⟨.bool (decide (a = b)), by
    have h1 := D.rdv.1 (r.eval ((ht x (by simp [Op.operands])).trans hx))
    have h2 := D.rdv.1 (r.eval ((ht y (by simp [Op.operands])).trans hy))
    simp only [execOp, h1, h2, Sem.run_bind, heq a b w]
    simp [eqGuard, hg, heq a b w], by rw [Rdv_v]; exact ⟨rfl, rfl⟩⟩
theorem o_ned {α : Type} [DecidableEq α] (D : DT α) (heq : ∀ (a b : α) (w : World), (binOp .neq D.t (.agg (D.arr a)) (.agg (D.arr b))).run Try.prog w = .ok (.bool (!decide (a = b))) w) (hg : Try.prog.eqGuardType Try.prog.depth D.t = false) {t' : TypeId} {x y : Operand} {a b : α} (hd : dOk nt d = true) (hx : evalO T x = some (D.av a)) (hy : evalO T y = some (D.av b)) :
    OpOK Try.prog E nt ops ⟨d, .binOp .neq D.t x y t', ty, pos, af, gd⟩ T H [] ⟨.v (.bool (decide (a ≠ b))), []⟩ :=
  ok_val hd fun B T' H' A w r ht hh => ⟨.bool (decide (a ≠ b)), by
    have h1 := D.rdv.1 (r.eval ((ht x (by simp [Op.operands])).trans hx))
    have h2 := D.rdv.1 (r.eval ((ht y (by simp [Op.operands])).trans hy))
    have e : (!decide (a = b)) = decide (a ≠ b) := by simp
    simp only [execOp, h1, h2, Sem.run_bind, heq a b w, e]
    simp [eqGuard, hg, heq a b w], by rw [Rdv_v]; exact ⟨rfl, rfl⟩⟩
theorem o_eqKey {t' : TypeId} {x y : Operand} {a b : Key} (hd : dOk nt d = true) (hx : evalO T x = some a.av) (hy : evalO T y = some b.av) : OpOK Try.prog E nt ops ⟨d, .binOp .eql 93 x y t', ty, pos, af, gd⟩ T H [] ⟨.v (.bool (decide (a = b))), []⟩ := o_eqd dKey Key.eql Key.eqG hd hx hy
theorem o_neKey {t' : TypeId} {x y : Operand} {a b : Key} (hd : dOk nt d = true) (hx : evalO T x = some a.av) (hy : evalO T y = some b.av) : OpOK Try.prog E nt ops ⟨d, .binOp .neq 93 x y t', ty, pos, af, gd⟩ T H [] ⟨.v (.bool (decide (a ≠ b))), []⟩ := o_ned dKey Key.neq Key.eqG hd hx hy
theorem o_eqVl {t' : TypeId} {x y : Operand} {a b : Vl} (hd : dOk nt d = true) (hx : evalO T x = some a.av) (hy : evalO T y = some b.av) : OpOK Try.prog E nt ops ⟨d, .binOp .eql 42 x y t', ty, pos, af, gd⟩ T H [] ⟨.v (.bool (decide (a = b))), []⟩ := o_eqd dVl Vl.eql Vl.eqG hd hx hy
theorem o_neVl {t' : TypeId} {x y : Operand} {a b : Vl} (hd : dOk nt d = true) (hx : evalO T x = some a.av) (hy : evalO T y = some b.av) : OpOK Try.prog E nt ops ⟨d, .binOp .neq 42 x y t', ty, pos, af, gd⟩ T H [] ⟨.v (.bool (decide (a ≠ b))), []⟩ := o_ned dVl Vl.neq Vl.eqG hd hx hy
theorem o_eqEnt {t' : TypeId} {x y : Operand} {a b : Ent} (hd : dOk nt d = true) (hx : evalO T x = some a.av) (hy : evalO T y = some b.av) : OpOK Try.prog E nt ops ⟨d, .binOp .eql 97 x y t', ty, pos, af, gd⟩ T H [] ⟨.v (.bool (decide (a = b))), []⟩ := o_eqd dEnt Ent.eql Ent.eqG hd hx hy
theorem o_neEnt {t' : TypeId} {x y : Operand} {a b : Ent} (hd : dOk nt d = true) (hx : evalO T x = some a.av) (hy : evalO T y = some b.av) : OpOK Try.prog E nt ops ⟨d, .binOp .neq 97 x y t', ty, pos, af, gd⟩ T H [] ⟨.v (.bool (decide (a ≠ b))), []⟩ := o_ned dEnt Ent.neq Ent.eqG hd hx hy
theorem o_eqMsg {t' : TypeId} {x y : Operand} {a b : Msg} (hd : dOk nt d = true) (hx : evalO T x = some a.av) (hy : evalO T y = some b.av) : OpOK Try.prog E nt ops ⟨d, .binOp .eql 112 x y t', ty, pos, af, gd⟩ T H [] ⟨.v (.bool (decide (a = b))), []⟩ := o_eqd dMsg Msg.eql Msg.eqG hd hx hy
theorem o_neMsg {t' : TypeId} {x y : Operand} {a b : Msg} (hd : dOk nt d = true) (hx : evalO T x = some a.av) (hy : evalO T y = some b.av) : OpOK Try.prog E nt ops ⟨d, .binOp .neq 112 x y t', ty, pos, af, gd⟩ T H [] ⟨.v (.bool (decide (a ≠ b))), []⟩ := o_ned dMsg Msg.neq Msg.eqG hd hx hy
/-- append onto a row of images -/
theorem o_app {α : Type} {f : α → AV} {s x : Operand} {t tx e : TypeId} {es bytes : Nat} {ea : Bool} {tk : Nat} {xs zs : List α} {src : AV} (hd : dOk nt d = true) (hs : tabT.ti t = some (.sl e es bytes ea)) (hx : evalO T s = some (.sl (some tk) es (xs.map f))) (hg : H tk = some (.tail e es xs.length))
    (hy : evalO T x = some src) (hsrc : SrcOf Try.prog tx es src (zs.map f)) (hlen : (xs.length + zs.length) * bytes ≤ 140737488355328) (hlen2 : xs.length + zs.length ≤ 9223372036854775807) :
    OpOK Try.prog E nt ops ⟨d, .call { callee := .builtin .append, args := #[s, x], argTypes := #[t, tx] }, ty, pos, af, gd⟩ T H [tk] ⟨.sl (some tk) es ((xs ++ zs).map f), [(tk, .tail e es (xs ++ zs).length)]⟩ := by
  have := ok_append tabT (E := E) (ops := ops) (H := H) (ty := ty) (pos := pos) (af := af) (gd := gd) hd hs hx (by rw [List.length_map]; exact hg) hy hsrc (by simpa using hlen) (by simpa using hlen2)
  rw [← List.map_append, List.length_map, List.length_map, ← List.length_append] at this
  exact this
/-- one element more: a new row of one is laid, and appended -/
theorem o_one {α : Type} (f : α → AV) (x : α) {tx e : TypeId} {es bytes : Nat} {ea : Bool} {tok : Option Nat} (hs : tabT.ti tx = some (.sl e es bytes ea)) : SrcOf Try.prog tx es (.sl tok es [f x]) ([x].map f) := src_sl tabT hs
theorem o_many {α : Type} {f : α → AV} {xs : List α} {tx e : TypeId} {es bytes : Nat} {ea : Bool} {tok : Option Nat} (hs : tabT.ti tx = some (.sl e es bytes ea)) : SrcOf Try.prog tx es (.sl tok es (xs.map f)) (xs.map f) := src_sl tabT hs
theorem o_app0 {α : Type} {f : α → AV} {s x : Operand} {t tx e : TypeId} {es bytes : Nat} {ea : Bool} {tk : Nat} {zs : List α} {src : AV} (hd : dOk nt (some tk) = true) (hs : tabT.ti t = some (.sl e (es + 1) bytes ea)) (hx : evalO T s = some (.v (.slice none 0 0))) (hg : H tk = none)
    (hy : evalO T x = some src) (hsrc : SrcOf Try.prog tx (es + 1) src (zs.map f)) (hlen : zs.length * bytes ≤ 140737488355328) (hlen2 : zs.length ≤ 9223372036854775807) :
    OpOK Try.prog E nt ops ⟨some tk, .call { callee := .builtin .append, args := #[s, x], argTypes := #[t, tx] }, ty, pos, af, gd⟩ T H [] ⟨.sl (some tk) (es + 1) (zs.map f), [(tk, .tail e (es + 1) zs.length)]⟩ := by
  have := ok_append_nil tabT (E := E) (ops := ops) (H := H) (ty := ty) (pos := pos) (af := af) (gd := gd) hd hs hx hg hy hsrc (by simpa using hlen) (by simpa using hlen2)
  rw [List.length_map] at this
  exact this
/-- a new row -/
theorem o_bsl {t e : TypeId} {es bytes len : Nat} {ea : Bool} {l : List (Nat × Operand)} {vs : List (Nat × AV)} {z : AV} {out ys : List AV} {g : Nat} (hz : ZeroOk Try.prog e z) (hd : dOk nt (some g) = true) (hs : tabT.ti t = some (.sl e (es + 1) bytes ea)) (hv : partsA T l = some vs) (ho : fillA vs (List.replicate (len + 1) z) = some out) (hg : H g = none)
    (hw : ∀ H', WkL H' out ys) (hsz : out.all (fun x => Nat.beq (sizeA x) (es + 1)) = true) (hlen : out.length = len + 1) (hsmall : Nat.ble ((len + 1) * (es + 1)) 16777216 = true) :
    OpOK Try.prog E nt ops ⟨some g, .buildSlice t (len + 1) l.toArray, ty, pos, af, gd⟩ T H [] ⟨.sl (some g) (es + 1) ys, [(g, .tail e (es + 1) (len + 1))]⟩ := ok_bslice tabT hd hs hz hv ho hg hw hsz hlen hsmall
def seqA (T : Nat → Option AV) (n : Nat) : Nat → List (Nat × Operand) → Option (List AV)
  | _, [] => some []
  | i, (j, x) :: l => bif Nat.beq i j then (match evalO T x, seqA T n (i + 1) l with
    | some v, some vs => bif notTup v && Nat.beq (sizeA v) n then some (v :: vs) else none
    | _, _ => none) else none
theorem seqA_fill {T : Nat → Option AV} {n : Nat} {z : AV} (hz : sizeA z = n) : ∀ (l : List (Nat × Operand)) (i : Nat) (out pre : List AV), seqA T n i l = some out → pre.length = i → ∃ vs, partsA T l = some vs ∧ fillA vs (pre ++ List.replicate out.length z) = some (pre ++ out)
  | [], i, out, pre, h, hp => by
    simp only [seqA] at h; injection h with h; subst h
    exact ⟨[], rfl, by simp [fillA]⟩
  | (j, x) :: l, i, out, pre, h, hp => by
    simp only [seqA] at h
    cases hb : Nat.beq i j with
    | false => rw [hb] at h; cases h
    | true =>
      have := Nat.eq_of_beq_eq_true hb
      subst this
      rw [hb] at h
      simp only [cond_true] at h
      cases hx : evalO T x with
      | none => rw [hx] at h; cases h
      | some v =>
        cases hl : seqA T n (i + 1) l with
        | none => rw [hx, hl] at h; cases h
        | some us =>
          rw [hx, hl] at h
          cases hc : (notTup v && Nat.beq (sizeA v) n) with
          | false => simp only [hc, cond_false] at h; cases h
          | true =>
            simp only [hc, cond_true, Option.some.injEq] at h
            subst h
            rw [Bool.and_eq_true] at hc
            obtain ⟨vs, k1, k2⟩ := seqA_fill hz l (i + 1) us (pre ++ [v]) hl (by simp [hp])
            refine ⟨(i, v) :: vs, by simp only [partsA, hx, k1, hc.1, cond_true], ?_⟩
            have e1 : (pre ++ List.replicate (v :: us).length z)[i]? = some z := by
              rw [List.getElem?_append_right (by omega)]
              simp [hp]
            have e2 : (pre ++ List.replicate (v :: us).length z).set i v = (pre ++ [v]) ++ List.replicate us.length z := by
              rw [List.set_append_right _ _ (by omega), hp, Nat.sub_self, List.length_cons, List.replicate_succ, List.set_cons_zero]
              simp
            have e3 : Nat.beq (sizeA v) (sizeA z) = true := by rw [hz]; exact hc.2
            simp only [fillA, e1, e3, cond_true, e2, k2]
            simp
theorem seqA_size {T : Nat → Option AV} {n : Nat} : ∀ (l : List (Nat × Operand)) (i : Nat) (out : List AV), seqA T n i l = some out → out.all (fun x => Nat.beq (sizeA x) n) = true
  | [], i, out, h => by simp only [seqA] at h; injection h with h; subst h; rfl
  | (j, x) :: l, i, out, h => by
    simp only [seqA] at h
    cases hb : Nat.beq i j with
    | false => rw [hb] at h; cases h
    | true =>
      rw [hb] at h
      simp only [cond_true] at h
      cases hx : evalO T x with
      | none => rw [hx] at h; cases h
      | some v =>
        cases hl : seqA T n (i + 1) l with
        | none => rw [hx, hl] at h; cases h
        | some us =>
          rw [hx, hl] at h
          cases hc : (notTup v && Nat.beq (sizeA v) n) with
          | false => simp only [hc, cond_false] at h; cases h
          | true =>
            simp only [hc, cond_true, Option.some.injEq] at h
            subst h
            rw [Bool.and_eq_true] at hc
            simp only [List.all_cons, hc.2, seqA_size l (i + 1) us hl, Bool.and_self]
mutual
/-- a value that may still be added to, or that bears such ones, as one that is not -/
def weakV : AV → Option AV
  | .sl _ n zs => some (.sl none n zs)
  | .agg n fs => match weakA fs with
    | some us => some (.agg n us)
    | none => none
  | _ => none
def weakA : List AV → Option (List AV)
  | [] => some []
  | x :: l => match dataA x with
    | true => match weakA l with
      | some us => some (x :: us)
      | none => none
    | false => match weakV x with
      | some u => match weakA l with
        | some us => some (u :: us)
        | none => none
      | none => none
end
mutual
theorem weakV_wk {H : Hp} : ∀ (x u : AV), weakV x = some u → Wk H x u
  | .sl _ n zs, u, h => by
    simp only [weakV, Option.some.injEq] at h
    subst h
    exact Wk.tok
  | .agg n fs, u, h => by
    unfold weakV at h
    split at h
    · rename_i us e
      injection h with h; subst h
      exact Wk.agg (weakA_wkl _ _ e)
    · cases h
  | .v _, _, h | .arr _ _ _, _, h | .ptr _ _ _, _, h | .ref _, _, h | .seg _ _ _ _ _ _, _, h | .tup _, _, h | .fn _ _ _, _, h | .ifc _ _, _, h | .own _ _ _ _, _, h => by simp [weakV] at h
theorem weakA_wkl {H : Hp} : ∀ (l us : List AV), weakA l = some us → WkL H l us
  | [], us, h => by simp only [weakA] at h; injection h with h; subst h; exact .nil
  | x :: l, us, h => by
    unfold weakA at h
    split at h
    · rename_i hx
      split at h
      · rename_i us' h'
        injection h with h; subst h
        exact .cons (Wk.data hx) (weakA_wkl _ _ h')
      · cases h
    · split at h
      · rename_i u hu
        split at h
        · rename_i us' h'
          injection h with h; subst h
          exact .cons (weakV_wk _ _ hu) (weakA_wkl _ _ h')
        · cases h
      · cases h
end
/-- a new row, by its elements one by one -/
theorem o_bsll {t e : TypeId} {es bytes len : Nat} {ea : Bool} {l : List (Nat × Operand)} {z : AV} {out ys : List AV} {g : Nat} (hz : ZeroOk Try.prog e z) (hzs : sizeA z = es + 1) (hd : dOk nt (some g) = true) (hs : tabT.ti t = some (.sl e (es + 1) bytes ea)) (hv : seqA T (es + 1) 0 l = some out) (hg : H g = none)
    (hlen : out.length = len + 1) (hsmall : Nat.ble ((len + 1) * (es + 1)) 16777216 = true) (hw : weakA out = some ys) :
    OpOK Try.prog E nt ops ⟨some g, .buildSlice t (len + 1) l.toArray, ty, pos, af, gd⟩ T H [] ⟨.sl (some g) (es + 1) ys, [(g, .tail e (es + 1) (len + 1))]⟩ := by
  obtain ⟨vs, k1, k2⟩ := seqA_fill hzs l 0 out [] hv rfl
  simp only [List.nil_append, hlen] at k2
  exact o_bsl hz hd hs k1 k2 hg (fun _ => weakA_wkl _ _ hw) (seqA_size l 0 out hv) hlen hsmall
/-- cuts of images -/
theorem o_cut {α : Type} {f : α → AV} {t e : TypeId} {es bytes : Nat} {ea : Bool} {x : Operand} {lo hi : Option Operand} {tok : Option Nat} {xs : List α} {l h : Nat} (hd : dOk nt d = true) (hs : tabT.ti t = some (.sl e es bytes ea)) (hx : evalO T x = some (.sl tok es (xs.map f))) (hlo : BndA T lo 0 l) (hhi : BndA T hi xs.length h) (h1 : l ≤ h) (h2 : h ≤ xs.length) :
    OpOK Try.prog E nt ops ⟨d, .slice t x lo hi none, ty, pos, af, gd⟩ T H [] ⟨.sl none es (((xs.take h).drop l).map f), []⟩ := by
  have := ok_cut tabT (E := E) (ops := ops) (H := H) (ty := ty) (pos := pos) (af := af) (gd := gd) (mx := none) (m := 0) hd hs hx hlo (by simpa using hhi) (.inl ⟨rfl, rfl⟩) h1 (by simpa using h2)
  rwa [← List.map_take, ← List.map_drop] at this
theorem o_cutl {α : Type} {f : α → AV} {t e : TypeId} {es bytes : Nat} {ea : Bool} {x lo : Operand} {tok : Option Nat} {xs : List α} {k : IntKind} {l : Nat} (hd : dOk nt d = true) (hs : tabT.ti t = some (.sl e es bytes ea)) (hx : evalO T x = some (.sl tok es (xs.map f))) (hlo : evalO T lo = some (.v (.int k (l : Nat)))) (h1 : l ≤ xs.length) :
    OpOK Try.prog E nt ops ⟨d, .slice t x (some lo) none none, ty, pos, af, gd⟩ T H [] ⟨.sl none es ((xs.drop l).map f), []⟩ := by
  have := o_cut (E := E) (ops := ops) (H := H) (ty := ty) (pos := pos) (af := af) (gd := gd) (lo := some lo) (hi := none) (h := xs.length) hd hs hx (bnd_nat hlo) bnd_none h1 (Nat.le_refl _)
  rwa [List.take_length] at this
theorem o_cuth {α : Type} {f : α → AV} {t e : TypeId} {es bytes : Nat} {ea : Bool} {x hi : Operand} {tok : Option Nat} {xs : List α} {k : IntKind} {h : Nat} (hd : dOk nt d = true) (hs : tabT.ti t = some (.sl e es bytes ea)) (hx : evalO T x = some (.sl tok es (xs.map f))) (hhi : evalO T hi = some (.v (.int k (h : Nat)))) (h1 : h ≤ xs.length) :
    OpOK Try.prog E nt ops ⟨d, .slice t x none (some hi) none, ty, pos, af, gd⟩ T H [] ⟨.sl none es ((xs.take h).map f), []⟩ := by
  have := o_cut (E := E) (ops := ops) (H := H) (ty := ty) (pos := pos) (af := af) (gd := gd) (lo := none) (hi := some hi) (l := 0) hd hs hx bnd_none (bnd_nat hhi) (Nat.zero_le _) h1
  rwa [List.drop_zero] at this
theorem o_cutlh {α : Type} {f : α → AV} {t e : TypeId} {es bytes : Nat} {ea : Bool} {x lo hi : Operand} {tok : Option Nat} {xs : List α} {k k' : IntKind} {l h : Nat} (hd : dOk nt d = true) (hs : tabT.ti t = some (.sl e es bytes ea)) (hx : evalO T x = some (.sl tok es (xs.map f))) (hlo : evalO T lo = some (.v (.int k (l : Nat)))) (hhi : evalO T hi = some (.v (.int k' (h : Nat)))) (h1 : l ≤ h) (h2 : h ≤ xs.length) :
    OpOK Try.prog E nt ops ⟨d, .slice t x (some lo) (some hi) none, ty, pos, af, gd⟩ T H [] ⟨.sl none es (((xs.take h).drop l).map f), []⟩ := o_cut hd hs hx (bnd_nat hlo) (bnd_nat hhi) h1 h2
end
/-- a row of none -/
theorem none_arr {α : Type} (f : Nat → α) : Array.map f (Array.range 0) = #[] := Array.eq_empty_of_size_eq_zero (by simp)
theorem run_buildSlice0 (w : World) (t e : TypeId) (ie : TypeInfo) (hu : Try.prog.underlying t = some (.slice e)) (hie : Try.prog.info? e = some ie) : (Instr.buildSlice t 0 #[]).run Try.prog w = .ok (.slice (some ⟨w.heap.size, 0, none⟩) 0 0) (w.alloc (.cells #[] e)) := by
  simp [Instr.buildSlice, run_underlying hu, sizeOf, typeInfo, hie, newRow, Instr.fill]
  rw [none_arr]
section
variable {E : Env} {nt : Nat} {ops : Array Oper} {T : Nat → Option AV} {H : Hp} {d : Option Nat} {ty : TypeId} {pos : String} {af : Array Edge} {gd : Option (Nat × Bool)}
theorem o_bsl0 {t e : TypeId} {es bytes : Nat} {ea : Bool} {g : Nat} (hd : dOk nt (some g) = true) (hs : tabT.ti t = some (.sl e (es + 1) bytes ea)) (hg : H g = none) :
    OpOK Try.prog E nt ops ⟨some g, .buildSlice t 0 #[], ty, pos, af, gd⟩ T H [] ⟨.sl (some g) (es + 1) [], [(g, .tail e (es + 1) 0)]⟩ :=
  ok_eff hd fun B T' H' a w r ht hh hw' => by
    have hg' : H' g = none := (hw' (g, .tail e (es + 1) 0) (by simp)).trans hg
    obtain ⟨_, hu, hte, i, zv, z1, z2, z3, z4, z5⟩ := tabT.ok t _ hs
    obtain ⟨k1, k2⟩ := r.newRow (e := e) (k := 0) (cap := 0) (ys := []) (cs := []) hg' (Nat.succ_pos es) (by simp [Rdu]) rfl (by simp) (Nat.zero_le _) (by unfold maxLen; omega)
    have hrun := run_buildSlice0 w t e i hu z1
    have hfin : (execOp a.eval ⟨some g, .buildSlice t 0 #[], ty, pos, af, gd⟩).run Try.prog w = .ok (.value (.slice (some ⟨w.heap.size, 0, none⟩) 0 0)) (w.alloc (.cells #[] e)) := by simp [execOp, hrun]
    exact ⟨_, _, _, hfin, k1, by rw [Rdv_not (by simp)]; exact ⟨_, k2, rfl⟩⟩
/-- appended to a row of none -/
theorem o_appn {α : Type} {f : α → AV} {s x : Operand} {t tx e : TypeId} {es bytes : Nat} {ea : Bool} {tk : Nat} {zs : List α} {src : AV} (hd : dOk nt d = true) (hs : tabT.ti t = some (.sl e es bytes ea)) (hx : evalO T s = some (.sl (some tk) es [])) (hg : H tk = some (.tail e es 0))
    (hy : evalO T x = some src) (hsrc : SrcOf Try.prog tx es src (zs.map f)) (hlen : zs.length * bytes ≤ 140737488355328) (hlen2 : zs.length ≤ 9223372036854775807) :
    OpOK Try.prog E nt ops ⟨d, .call { callee := .builtin .append, args := #[s, x], argTypes := #[t, tx] }, ty, pos, af, gd⟩ T H [tk] ⟨.sl (some tk) es (zs.map f), [(tk, .tail e es zs.length)]⟩ := by
  have := o_app (f := f) (xs := []) (zs := zs) (E := E) (ops := ops) (H := H) (ty := ty) (pos := pos) (af := af) (gd := gd) hd hs hx hg hy hsrc (by simpa using hlen) (by simpa using hlen2)
  rwa [List.nil_append] at this
end
theorem Go2.re {E : Env} {nt : Nat} {T : List (Nat × AV)} {H : List (Nat × Bx)} (s : Nat) {x y : AV} (hs : look s T = some x) (h : ∀ U w B H v, Rdv U w B H x v → Rdv U w B H y v) : Go2 E nt ⟨T, H⟩ ⟨(s, y) :: T, H⟩ := fun B a w r => by
  refine ⟨B, r.nt, r.df, fun s' z hx => ?_, r.box, r.non, r.inj, r.left, r.keep⟩
  have eT : St.t ⟨(s, y) :: T, H⟩ = upd (St.t ⟨T, H⟩) s y := look_cons _ _ _
  rw [eT] at hx
  by_cases h' : s' = s
  · subst h'
    rw [upd_same] at hx
    injection hx with hx
    subst hx
    obtain ⟨v, h1, h2⟩ := r.tmp s' _ hs
    exact ⟨v, h1, h _ _ _ _ _ h2⟩
  · rw [upd_ne _ _ h'] at hx
    exact r.tmp s' z hx
/-- nil, as a slice of none -/
theorem Go2.nil {E : Env} {nt : Nat} {T : List (Nat × AV)} {H : List (Nat × Bx)} (s n : Nat) (hs : look s T = some (.v (.slice none 0 0))) : Go2 E nt ⟨T, H⟩ ⟨(s, .sl none n []) :: T, H⟩ := Go2.re s hs fun U w B H v h => by
  rw [Rdv_v] at h
  rw [Rdv_not (by simp), h.2]
  refine ⟨[_], ?_, rfl⟩
  simp only [Rd]
  exact ⟨none, 0, rfl, Nat.le_refl _, by unfold maxLen; omega, fun h => absurd h (by simp), fun t ht => by cases ht⟩
/-- a contract's reading of what is handed in -/
theorem sl_in {α : Type} {av : α → AV} {arr : α → Array Value} {n : Nat} (enc : EncOk arr n) (hrdu : ∀ (U : Uns) (w : World) (xs : List α) {c : List Value}, Rdu U w n (xs.map av) B0 H0 c ↔ c = flat arr xs) {w : World} {xs : List α} {v : Value} (h : Sl arr n w v xs) : Rdv (fun _ _ => False) w B0 H0 (.sl none n (xs.map av)) v := by
  obtain ⟨A, cap, rfl, h2, h3, h4⟩ := h
  rw [Rdv_not (by simp)]
  refine ⟨[_], ?_, rfl⟩
  simp only [Rd, List.length_map]
  refine ⟨A, cap, rfl, h2, h3, fun h0 => ?_, fun t ht => by cases ht⟩
  obtain ⟨b, off, k1, k2, k3⟩ := h4.row enc h0
  refine ⟨b, off, flat arr xs, k1, k3, fun _ _ _ h => h, (hrdu _ _ xs).2 rfl⟩
theorem ints_in {w : World} {xs : List Int} {v : Value} (h : Sl ie 1 w v xs) : Rdv (fun _ _ => False) w B0 H0 (.sl none 1 (xs.map intA)) v :=
  sl_in ie_ok (fun U w xs c => by rw [flat_cells (arr := ie) (cell := fun n => Value.int .i64 n) (fun _ => rfl)]; exact rdu_cells (cell := fun n => .int .i64 n) (fun _ => rfl) (fun _ => rfl) xs) h
theorem DT.sl_in {α : Type} (D : DT α) {w : World} {xs : List α} {v : Value} (h : Sl D.arr D.n w v xs) : Rdv (fun _ _ => False) w B0 H0 (.sl none D.n (xs.map D.av)) v := Proofs.Ytphojngdgmnpaaa.sl_in D.enc (fun U w xs c => D.rdu xs) h
theorem int_in {w : World} {n : Int} : Rdv (fun _ _ => False) w B0 H0 (intA n) (.int .i64 n) := Rdv_v.2 ⟨rfl, rfl⟩
theorem rdp_cons {U : Uns} {w : World} {x : AV} {xs : List AV} {v : Value} {us : List Value} (hn : notTup x = true) (h : Rdv U w B0 H0 x v) (h2 : Rdp U w xs B0 H0 us) : Rdp U w (x :: xs) B0 H0 (v :: us) := by
  rw [Rdv_not (notTup_ne hn)] at h
  obtain ⟨c, h1, h3⟩ := h
  simp only [Rdp]
  exact ⟨c, us, by rw [h3], h1, h2⟩
theorem rdp_nil' {U : Uns} {w : World} : Rdp U w [] B0 H0 [] := by simp [Rdp]
/-- a law's walk out of its reading -/
theorem law_of {f : FuncId} {args : List AV} {vs : List Value} {w : World} (h : AFn Try.prog f args (boolA true)) (hr : Rdp (fun _ _ => False) w args B0 H0 vs) : Calls Try.prog f vs.toArray w (Is w (.bool true)) :=
  (h _ w vs hr).mono fun e w' ⟨v, h1, h2, h3⟩ => by
    have := (Rdv_v.1 h2).2
    subst this
    exact ⟨h1, h3⟩
/-- a number that is none below 0, by reckoning -/
def natOf : Int → Option Nat
  | .ofNat n => some n
  | .negSucc _ => none
theorem natOf_eq : ∀ {x : Int} {n : Nat}, natOf x = some n → x = (n : Int)
  | .ofNat m, n, h => by simp only [natOf] at h; injection h with h; subst h; rfl
  | .negSucc _, n, h => by simp [natOf] at h
def forceA : List AV → Option (List AV)
  | [] => some []
  | x :: l => match forceA l with
    | some us => some (x :: us)
    | none => none
theorem forceA_eq : ∀ {l us : List AV}, forceA l = some us → l = us
  | [], us, h => by simp only [forceA] at h; injection h
  | x :: l, us, h => by
    simp only [forceA] at h
    split at h
    · rename_i us' h'
      injection h with h; subst h
      rw [forceA_eq h']
    · cases h
section
variable {E : Env} {nt : Nat} {ops : Array Oper} {T : Nat → Option AV} {H : Hp} {d : Option Nat} {ty : TypeId} {pos : String} {af : Array Edge} {gd : Option (Nat × Bool)}
theorem o_idx2 {α : Type} {f : α → AV} {x ix : Operand} {t e : TypeId} {es bytes : Nat} {ea : Bool} {tok : Option Nat} {xs : List α} {k : IntKind} {n : Int} {i : Nat} (hd : dOk nt d = true) (hs : tabT.ti t = some (.sl e es bytes ea)) (hx : evalO T x = some (.sl tok es (xs.map f))) (hi : evalO T ix = some (.v (.int k n))) (hn : natOf n = some i)
    (hl : i < xs.length) : OpOK Try.prog E nt ops ⟨d, .indexAddr t x ix, ty, pos, af, gd⟩ T H [] ⟨.ref (f xs[i]), []⟩ := o_idxi i hd hs hx hi (natOf_eq hn) hl
theorem o_cutl2 {α : Type} {f : α → AV} {t e : TypeId} {es bytes : Nat} {ea : Bool} {x lo : Operand} {tok : Option Nat} {xs : List α} {k : IntKind} {n : Int} {l : Nat} (hd : dOk nt d = true) (hs : tabT.ti t = some (.sl e es bytes ea)) (hx : evalO T x = some (.sl tok es (xs.map f))) (hlo : evalO T lo = some (.v (.int k n))) (hn : natOf n = some l) (h1 : l ≤ xs.length) :
    OpOK Try.prog E nt ops ⟨d, .slice t x (some lo) none none, ty, pos, af, gd⟩ T H [] ⟨.sl none es ((xs.drop l).map f), []⟩ := by
  have := natOf_eq hn; subst this
  exact o_cutl hd hs hx hlo h1
theorem o_cuth2 {α : Type} {f : α → AV} {t e : TypeId} {es bytes : Nat} {ea : Bool} {x hi : Operand} {tok : Option Nat} {xs : List α} {k : IntKind} {n : Int} {h : Nat} (hd : dOk nt d = true) (hs : tabT.ti t = some (.sl e es bytes ea)) (hx : evalO T x = some (.sl tok es (xs.map f))) (hhi : evalO T hi = some (.v (.int k n))) (hn : natOf n = some h) (h1 : h ≤ xs.length) :
    OpOK Try.prog E nt ops ⟨d, .slice t x none (some hi) none, ty, pos, af, gd⟩ T H [] ⟨.sl none es ((xs.take h).map f), []⟩ := by
  have := natOf_eq hn; subst this
  exact o_cuth hd hs hx hhi h1
theorem o_idx3 {α : Type} {f : α → AV} {x ix : Operand} {t e : TypeId} {es bytes : Nat} {ea : Bool} {tok : Option Nat} {xs : List α} {k : IntKind} {i : Nat} (hd : dOk nt d = true) (hs : tabT.ti t = some (.sl e es bytes ea)) (hx : evalO T x = some (.sl tok es (xs.map f))) (hi : evalO T ix = some (.v (.int k (@OfNat.ofNat Int i (@instOfNat i)))))
    (hl : @OfNat.ofNat Nat i (instOfNatNat i) < xs.length) : OpOK Try.prog E nt ops ⟨d, .indexAddr t x ix, ty, pos, af, gd⟩ T H [] ⟨.ref (f xs[@OfNat.ofNat Nat i (instOfNatNat i)]), []⟩ := o_idxi i hd hs hx hi rfl hl
theorem o_cutl3 {α : Type} {f : α → AV} {t e : TypeId} {es bytes : Nat} {ea : Bool} {x lo : Operand} {tok : Option Nat} {xs : List α} {k : IntKind} {l : Nat} (hd : dOk nt d = true) (hs : tabT.ti t = some (.sl e es bytes ea)) (hx : evalO T x = some (.sl tok es (xs.map f))) (hlo : evalO T lo = some (.v (.int k (@OfNat.ofNat Int l (@instOfNat l))))) (h1 : @OfNat.ofNat Nat l (instOfNatNat l) ≤ xs.length) :
    OpOK Try.prog E nt ops ⟨d, .slice t x (some lo) none none, ty, pos, af, gd⟩ T H [] ⟨.sl none es ((xs.drop (@OfNat.ofNat Nat l (instOfNatNat l))).map f), []⟩ := o_cutl hd hs hx hlo h1
theorem o_cuth3 {α : Type} {f : α → AV} {t e : TypeId} {es bytes : Nat} {ea : Bool} {x hi : Operand} {tok : Option Nat} {xs : List α} {k : IntKind} {h : Nat} (hd : dOk nt d = true) (hs : tabT.ti t = some (.sl e es bytes ea)) (hx : evalO T x = some (.sl tok es (xs.map f))) (hhi : evalO T hi = some (.v (.int k (@OfNat.ofNat Int h (@instOfNat h))))) (h1 : @OfNat.ofNat Nat h (instOfNatNat h) ≤ xs.length) :
    OpOK Try.prog E nt ops ⟨d, .slice t x none (some hi) none, ty, pos, af, gd⟩ T H [] ⟨.sl none es ((xs.take (@OfNat.ofNat Nat h (instOfNatNat h))).map f), []⟩ := o_cuth hd hs hx hhi h1
theorem o_cutlh2 {α : Type} {f : α → AV} {t e : TypeId} {es bytes : Nat} {ea : Bool} {x lo hi : Operand} {tok : Option Nat} {xs : List α} {k k' : IntKind} {m n : Int} {l h : Nat} (hd : dOk nt d = true) (hs : tabT.ti t = some (.sl e es bytes ea)) (hx : evalO T x = some (.sl tok es (xs.map f))) (hlo : evalO T lo = some (.v (.int k m))) (hm : natOf m = some l) (hhi : evalO T hi = some (.v (.int k' n))) (hn : natOf n = some h) (h1 : l ≤ h) (h2 : h ≤ xs.length) :
    OpOK Try.prog E nt ops ⟨d, .slice t x (some lo) (some hi) none, ty, pos, af, gd⟩ T H [] ⟨.sl none es (((xs.take h).drop l).map f), []⟩ := by
  have := natOf_eq hn; subst this
  have := natOf_eq hm; subst this
  exact o_cutlh hd hs hx hlo hhi h1 h2
theorem o_bld {t n : Nat} {fs : List (Nat × Nat × Bool)} {l : List (Nat × Operand)} {vs : List (Nat × AV)} {zs out out' : List AV} {z : AV} (hz : ZeroOk Try.prog t z) (hze : z = .agg n zs) (hd : dOk nt d = true) (hs : tabT.ti t = some (.st n fs)) (hv : partsA T l = some vs) (ho : fillA vs zs = some out) (hf : forceA out = some out') (hp : placesOk 0 zs fs = true) :
    OpOK Try.prog E nt ops ⟨d, .build t l.toArray, ty, pos, af, gd⟩ T H [] ⟨.agg n out', []⟩ := by
  subst hze
  have := forceA_eq hf; subst this
  exact ok_build tabT hd hs hz hv ho hp
end
theorem Wri {P : Program} {E : Env} {nt : Nat} {ops : Array Oper} {l : List Oper} {T : List (Nat × AV)} {H : List (Nat × Bx)} {rs : List Rec} {K : St → List Rec → Prop} (s : Nat) {a : Int} (b : Int) (hs : look s T = some (.v (.int .i64 a))) (he : a = b) {o : Oper} (h : AWops P E nt ops (o :: l) ⟨(s, .v (.int .i64 b)) :: T, H⟩ rs K) : AWops P E nt ops (o :: l) ⟨T, H⟩ rs K :=
  Was s (.v (.int .i64 b)) (by rw [hs, he]) h
/-- what a result is -/
theorem res_of {P : Program} {S : St} {t : Nat} {x : AV} (hx : S.t t = some x) (hn : notTup x = true) (hd : dataA x = true) : Res1 P S (.tmp t) x := ⟨x, hx, notTup_ne hn, Wk.data hd⟩
theorem res_sl {P : Program} {S : St} {t n : Nat} {tok : Option Nat} {xs : List AV} (hx : S.t t = some (.sl tok n xs)) : Res1 P S (.tmp t) (.sl none n xs) := ⟨_, hx, notTup_ne rfl, Wk.tok⟩
theorem res_nil {P : Program} {S : St} {t n : Nat} (hx : S.t t = some (.v (.slice none 0 0))) : Res1 P S (.tmp t) (.sl none n []) := ⟨_, hx, notTup_ne rfl, Wk.nil⟩
theorem res_var {S : St} {a t g : Nat} {x : AV} (ha : S.t a = some (.ptr g 0 [])) (hg : S.h g = some (.var x)) (hs : tabT.sa t = some (isAggA x, sizeA x)) (hd : dataA x = true) : Res1 Try.prog S (.cell a t) x := ⟨g, x, ha, hg, tabT.tyOf hs, Wk.data hd⟩
theorem fin {P : Program} {S : St} {rv : List ResultVar} {ys : List AV} (h : ResL P S rv ys) : (Exit.ret = Exit.normal ∨ Exit.ret = Exit.ret) ∧ ResL P S rv ys := ⟨.inr rfl, h⟩
end Go.Proofs.Ytphojngdgmnpaaa
