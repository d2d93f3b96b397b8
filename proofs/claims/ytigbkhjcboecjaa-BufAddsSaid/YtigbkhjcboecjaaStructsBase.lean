/-
  StructsBase: rows of cells made of parts: bytes, fields, equality field by field, composites. Of no one program.
-/
import Derived.Test.YtigbkhjcboecjaaOwn
import Derived.Laws.StructEq
import Derived.Laws.Tables
import Derived.Laws.BytesString
import Derived.Great.BuildSlice
namespace Go.Proofs.Ytigbkhjcboecjaa
open Go Go.RowKit
set_option linter.unusedVariables false
set_option linter.unusedSimpArgs false

theorem B8_zero : B8 0#8 = 0 := by rw [B8_def]; rfl
theorem D64_zero : D64 0#64 = 0 := by rw [D64_def]; rfl

theorem B8_beq0 (x : BitVec 8) : (B8 x == 0) = decide (x = 0#8) := by rw [← B8_zero, B8_beq]
theorem B8_bne0 (x : BitVec 8) : (B8 x != 0) = !decide (x = 0#8) := by rw [bne, B8_beq0]
theorem B8_bne (x y : BitVec 8) : (B8 x != B8 y) = !decide (x = y) := by rw [bne, B8_beq]
theorem D64_beq0 (x : BitVec 64) : (D64 x == 0) = decide (x = 0#64) := by rw [← D64_zero, D64_beq]
theorem D64_bne0 (x : BitVec 64) : (D64 x != 0) = !decide (x = 0#64) := by rw [bne, D64_beq0]
theorem D64_bne (x y : BitVec 64) : (D64 x != D64 y) = !decide (x = y) := by rw [bne, D64_beq]
attribute [go_sem] B8_zero D64_zero B8_beq0 B8_bne0 B8_bne D64_beq0 D64_bne0 D64_bne

/-! ### bytes as a row -/
@[irreducible] def bArr {n : Nat} (x : Vector (BitVec 8) n) : Array Value := x.toArray.map fun b => .int .u8 (B8 b)
theorem bArr_def {n : Nat} (x : Vector (BitVec 8) n) : bArr x = x.toArray.map fun b => .int .u8 (B8 b) := by unfold bArr; rfl
theorem bArr_size {n : Nat} (x : Vector (BitVec 8) n) : (bArr x).size = n := by rw [bArr_def]; simp
theorem bArr_one {n : Nat} (x : Vector (BitVec 8) n) : oneCells (bArr x) = true := by
  rw [bArr_def]; unfold oneCells
  rw [Array.all_map, Array.all_eq_true]
  intro i hi; rfl
theorem bArr_get {n : Nat} (x : Vector (BitVec 8) n) (i : Nat) (h : i < n) : (bArr x)[i]? = some (.int .u8 (B8 x[i])) := by
  rw [bArr_def]; simp [h]
theorem bArr_zero (n : Nat) : bArr (Vector.replicate n 0#8) = (List.replicate n (Value.int .u8 0)).toArray := by
  rw [bArr_def]; simp [B8_zero]

/-! ### parts of rows -/
theorem oneCells_append (a b : Array Value) : oneCells (a ++ b) = (oneCells a && oneCells b) := by unfold oneCells; rw [Array.all_append]
theorem oneCells_single (v : Value) : oneCells #[v] = v.oneCell' := by unfold oneCells; simp
theorem rowOf_append_left (a b : Array Value) (off n : Nat) (h : off + n ≤ a.size) : rowOf (a ++ b) off n = rowOf a off n := by
  unfold rowOf
  rw [if_pos (by rw [Array.size_append]; omega), if_pos h]
  congr 1
  apply Array.ext_getElem?
  intro k
  rw [Array.getElem?_extract, Array.getElem?_extract, Array.size_append]
  by_cases hk : k < n
  · rw [if_pos (by omega), if_pos (by omega), Array.getElem?_append_left (by omega)]
  · rw [if_neg (by omega), if_neg (by omega)]
theorem rowOf_append_right (a b : Array Value) (off n : Nat) (h : a.size ≤ off) : rowOf (a ++ b) off n = rowOf b (off - a.size) n := by
  unfold rowOf
  rw [Array.size_append]
  by_cases hk : off + n ≤ a.size + b.size
  · rw [if_pos hk, if_pos (by omega)]
    congr 1
    apply Array.ext_getElem?
    intro k
    rw [Array.getElem?_extract, Array.getElem?_extract, Array.size_append]
    by_cases hk : k < n
    · rw [if_pos (by omega), if_pos (by omega), Array.getElem?_append_right (by omega)]; congr 1; omega
    · rw [if_neg (by omega), if_neg (by omega)]
  · rw [if_neg hk, if_neg (by omega)]
theorem rowOf_here (a : Array Value) (n : Nat) (h : a.size = n) : rowOf a 0 n = some a := rowOf_full a n h
theorem splice_append_left (a b cs : Array Value) (off : Nat) (h : off + cs.size ≤ a.size) : splice (a ++ b) off cs = splice a off cs ++ b := by
  apply Array.ext_getElem?
  intro k
  rw [splice_get (by rw [Array.size_append]; omega), Array.getElem?_append, Array.getElem?_append, splice_size _ _ _ h, splice_get h]
  by_cases hk : k < a.size
  · rw [if_pos hk, if_pos hk]
  · rw [if_neg hk, if_neg hk, if_neg (by omega)]
theorem splice_append_right (a b cs : Array Value) (off : Nat) (h : a.size ≤ off) (h2 : off + cs.size ≤ a.size + b.size) : splice (a ++ b) off cs = a ++ splice b (off - a.size) cs := by
  apply Array.ext_getElem?
  intro k
  rw [splice_get (by rw [Array.size_append]; omega), Array.getElem?_append, Array.getElem?_append, splice_get (by omega)]
  by_cases hk : k < a.size
  · rw [if_pos hk, if_pos hk, if_neg (by omega)]
  · rw [if_neg hk, if_neg hk]
    by_cases h3 : off ≤ k ∧ k < off + cs.size
    · rw [if_pos h3, if_pos (by omega)]; congr 1; omega
    · rw [if_neg h3, if_neg (by omega)]
/-- rows one behind the other, and rows of one cell: closed words -/
@[irreducible] def cat (a b : Array Value) : Array Value := a ++ b
theorem cat_def (a b : Array Value) : cat a b = a ++ b := by unfold cat; rfl
@[irreducible] def cel (v : Value) : Array Value := #[v]
theorem cel_def (v : Value) : cel v = #[v] := by unfold cel; rfl
theorem cat_size (a b : Array Value) : (cat a b).size = a.size + b.size := by rw [cat_def]; simp
theorem cel_size (v : Value) : (cel v).size = 1 := by rw [cel_def]; rfl
theorem oneCells_cat (a b : Array Value) : oneCells (cat a b) = (oneCells a && oneCells b) := by rw [cat_def, oneCells_append]
theorem oneCells_cel (v : Value) : oneCells (cel v) = v.oneCell' := by rw [cel_def, oneCells_single]
theorem cat_get_left (a b : Array Value) (i : Nat) (h : i < a.size) : (cat a b)[i]? = a[i]? := by rw [cat_def, Array.getElem?_append_left h]
theorem cat_get_right (a b : Array Value) (i : Nat) (h : a.size ≤ i) : (cat a b)[i]? = b[i - a.size]? := by rw [cat_def, Array.getElem?_append_right h]
theorem cel_get (v : Value) : (cel v)[0]? = some v := by rw [cel_def]; rfl
theorem rowOf_cat_left (a b : Array Value) (off n : Nat) (h : off + n ≤ a.size) : rowOf (cat a b) off n = rowOf a off n := by rw [cat_def, rowOf_append_left _ _ _ _ h]
theorem rowOf_cat_right (a b : Array Value) (off n : Nat) (h : a.size ≤ off) : rowOf (cat a b) off n = rowOf b (off - a.size) n := by rw [cat_def, rowOf_append_right _ _ _ _ h]
theorem splice_cat_left (a b cs : Array Value) (off : Nat) (h : off + cs.size ≤ a.size) : splice (cat a b) off cs = cat (splice a off cs) b := by rw [cat_def, cat_def, splice_append_left _ _ _ _ h]
theorem splice_cat_right (a b cs : Array Value) (off : Nat) (h : a.size ≤ off) (h2 : off + cs.size ≤ a.size + b.size) : splice (cat a b) off cs = cat a (splice b (off - a.size) cs) := by rw [cat_def, cat_def, splice_append_right _ _ _ _ h h2]
theorem get_of_row {c : Array Value} {i : Nat} {v : Value} (h : rowOf c i 1 = some (cel v)) : c[i]? = some v := by
  have := (rowOf_spec h).2.2 0 (by omega)
  rw [Nat.add_zero, cel_get] at this
  exact this
theorem splice_all (c cs : Array Value) (h : cs.size = c.size) : splice c 0 cs = cs := splice_full c cs h
theorem splice_single (s : Array Value) (i : Nat) (v : Value) (h : i < s.size) : splice s i #[v] = s.setIfInBounds i v := by
  apply Array.ext_getElem?
  intro k
  rw [splice_get (by simp; omega), Array.getElem?_setIfInBounds]
  by_cases hk : i = k
  · subst hk; rw [if_pos (by simp), if_pos rfl, if_pos h]; simp
  · rw [if_neg (by simp; omega), if_neg hk]
theorem zero_of_info {P : Program} {t : TypeId} {z : Value} {n : Nat} (h : (P.info? t).map (fun i => (i.zero, i.size)) = some (some z, n)) : (P.info? t).bind (·.zero) = some z := by
  cases hq : P.info? t with
  | none => rw [hq] at h; cases h
  | some i => rw [hq] at h; simp at h; simpa using h.1

/-! ### texts of bytes, and back -/
@[irreducible] def bytesOf (l : List (BitVec 8)) : ByteArray := ⟨(l.map UInt8.ofBitVec).toArray⟩
def bitsOf (s : ByteArray) : List (BitVec 8) := s.data.toList.map (·.toBitVec)
theorem bytesOf_def (l : List (BitVec 8)) : bytesOf l = ⟨(l.map UInt8.ofBitVec).toArray⟩ := by unfold bytesOf; rfl
theorem bits_bytes (l : List (BitVec 8)) : bitsOf (bytesOf l) = l := by
  unfold bitsOf bytesOf
  simp [Function.comp_def]
theorem bytes_bits (s : ByteArray) : bytesOf (bitsOf s) = s := by
  unfold bitsOf bytesOf
  simp [Function.comp_def]
theorem bytesOf_size (l : List (BitVec 8)) : (bytesOf l).size = l.length := by
  rw [bytesOf_def]; show (Array.size _) = _; simp
theorem bitsOf_length (s : ByteArray) : (bitsOf s).length = s.size := by
  show _ = s.data.size
  unfold bitsOf; simp
theorem bytesOf_inj {l m : List (BitVec 8)} : bytesOf l = bytesOf m ↔ l = m := ⟨fun h => by rw [← bits_bytes l, h, bits_bytes], fun h => by rw [h]⟩

theorem bytesOf_nil : bytesOf [] = .empty := by rw [bytesOf_def]; rfl
/-! ### bytes as a list -/
/-- a byte as a cell -/
def be (x : BitVec 8) : Array Value := #[.int .u8 (B8 x)]
theorem be_ok : EncOk be 1 := ⟨fun _ => rfl, fun _ => by simp [be, oneCells, Value.oneCell'], by omega⟩
theorem flat_be (l : List (BitVec 8)) : flat be l = l.map fun x => Value.int .u8 (B8 x) := by
  induction l with
  | nil => rfl
  | cons x l ih => rw [List.map_cons, ← ih]; rfl
theorem row_bytes {w : World} {g o m : Nat} {b : Vector (BitVec 8) m} (h : row? w g o m = some (bArr b)) (i : Nat) (hi : i < m) : row? w g (o + i * 1) 1 = some (be b[i]) := by
  rw [Nat.mul_one]
  refine row_of_cell ?_
  exact row_cell h hi (bArr_get b i hi)
/-- the bytes of a row, as a slice -/
theorem sl_of_bArr {w : World} {g o m : Nat} {b : Vector (BitVec 8) m} (h : row? w g o m = some (bArr b)) (n cap : Nat) (hn : n ≤ m) (hc : n ≤ cap) (hm : cap ≤ maxLen) : Sl be 1 w (.slice (some ⟨g, o, none⟩) n cap) (b.toList.take n) := by
  have hl : (b.toList.take n).length = n := by simp; omega
  refine ⟨some ⟨g, o, none⟩, cap, by rw [hl], by rw [hl]; exact hc, hm, fun _ => ⟨g, o, rfl, row_lt h, fun i hi => ?_⟩⟩
  rw [row_bytes h i (by omega)]
  simp
/-- all cells of a list, as one row -/
theorem SlAt.row {α : Type} {enc : α → Array Value} {n : Nat} (hk : EncOk enc n) {w : World} {A : Option Addr} {xs : List α} (h : SlAt enc n w A xs) (h0 : 0 < xs.length) : ∃ b off, A = some ⟨b, off, none⟩ ∧ b < w.heap.size ∧ row? w b off (xs.length * n) = some (flat enc xs).toArray := by
  obtain ⟨b, off, rfl, hb, hr⟩ := h h0
  refine ⟨b, off, rfl, hb, ?_⟩
  have hn := hk.pos
  have hl := hr (xs.length - 1) (by omega)
  unfold row? at hl ⊢
  split at hl
  · rename_i c t fr hc
    have h1 := rowOf_spec hl
    have hm : (xs.length - 1) * n + n = xs.length * n := by rw [← Nat.succ_mul]; congr 1; omega
    unfold rowOf
    rw [if_pos (by omega)]
    congr 1
    apply Array.ext_getElem?
    intro j
    rw [Array.getElem?_extract]
    by_cases hj : j < xs.length * n
    · have hi : j / n < xs.length := (Nat.div_lt_iff_lt_mul hn).2 hj
      have hm2 : j % n < n := Nat.mod_lt _ hn
      have hd : j / n * n + j % n = j := by rw [Nat.mul_comm]; exact Nat.div_add_mod j n
      have h2 := hr (j / n) hi
      unfold row? at h2
      rw [hc] at h2
      have h3 := (rowOf_spec h2).2.2 (j % n) hm2
      rw [if_pos (by omega)]
      rw [Nat.add_assoc, hd] at h3
      rw [h3]
      have h4 := flat_get hk xs (j / n) (j % n) hi hm2
      rw [hd] at h4
      simpa using h4.symm
    · rw [if_neg (by omega), Array.getElem?_eq_none (by simp [flat_length hk]; omega)]
  · cases hl
theorem flat_oneCells {α : Type} {enc : α → Array Value} {n : Nat} (hk : EncOk enc n) (xs : List α) : oneCells (flat enc xs).toArray = true := by
  unfold oneCells
  rw [List.all_toArray, List.all_eq_true]
  exact flat_one hk xs
theorem run_str_sl {P : Program} {src dst e : TypeId} (hs : P.underlying src = some (.slice e)) (he : P.underlying e = some (.int .u8)) (hd : P.underlying dst = some .string) {w : World} {v : Value} {xs : List (BitVec 8)} (h : Sl be 1 w v xs) :
    (convert src dst v).run P w = .ok (.string (bytesOf xs)) w := by
  rw [bytesOf_def]
  obtain ⟨A, cap, rfl, h1, h2, hA⟩ := h
  rw [run_convert_bytes_string w src dst e A xs.length cap hs he hd]
  have hf : ∀ (l : List (BitVec 8)) (s : ByteArray), ((l.map B8).foldl (fun r n => r.push (UInt8.ofNat n.toNat)) s) = ⟨s.data ++ (l.map UInt8.ofBitVec).toArray⟩ := by
    intro l
    induction l with
    | nil => intro s; simp
    | cons x l ih =>
      intro s
      rw [List.map_cons, List.foldl_cons, ih]
      have : UInt8.ofNat (B8 x).toNat = UInt8.ofBitVec x := by
        rw [B8_def, Int.toNat_natCast]
        apply UInt8.toNat_inj.1
        simp
      rw [this]
      congr 1
      simp [ByteArray.push]
  by_cases h0 : 0 < xs.length
  · obtain ⟨b, off, rfl, hb, hr⟩ := SlAt.row be_ok hA h0
    have hl := run_loadCells_row (P := P) hr
    rw [Nat.mul_one] at hl
    rw [run_bytesToString w ⟨b, off, none⟩ xs.length cap (xs.map B8) (by rw [hl, flat_be]; simp [Function.comp_def])]
    rw [hf]
    simp [ByteArray.empty, ByteArray.emptyWithCapacity]
    rfl
  · obtain rfl : xs = [] := List.eq_nil_of_length_eq_zero (by omega)
    cases A with
    | none => simp [Conv.bytesToString, ByteArray.empty, ByteArray.emptyWithCapacity]; rfl
    | some a =>
      have hl : (loadCells a [].length).run P w = .ok [].toArray w := run_loadCells_list (P := P) w a [] (by simp)
      have := run_bytesToString (P := P) w a 0 cap [] (by simpa using hl)
      rw [List.length_nil, this]; rfl

/-! ### copy -/
@[irreducible] def cpRow (ts : Array TypeId) (ty : TypeId) (vs : Array Value) : Sem Value := Builtin.copy_ ts ty vs
@[irreducible] def cpRow' (ts : Array TypeId) (ty : TypeId) (vs : Array Value) : Sem Value := Builtin.copy_ ts ty vs
theorem cpRow_eq (ts : Array TypeId) (ty : TypeId) (vs : Array Value) : Builtin.copy_ ts ty vs = cpRow ts ty vs := by unfold cpRow; rfl
theorem putRow_setRow {w : World} {g o : Nat} {c cs : Array Value} {t : TypeId} {fr : Nat × Nat} (h : w.heap[g]? = some (.cells c t fr)) : w.setRow g (c.toList.take o ++ cs.toList ++ c.toList.drop (o + cs.toList.length)).toArray = putRow w g o cs := by
  unfold putRow World.setRow
  congr 1
  apply Array.ext_getElem?
  intro k
  simp only [Array.getElem?_modify]
  by_cases hk : g = k
  · subst hk
    simp only [h, if_true, Option.map_some]
    rfl
  · simp [hk]
/-- copy: m elements of n cells, that read as cs -/
theorem run_cpRow {P : Program} {dT sT ty elem : TypeId} {n : Nat} (hu : P.underlying dT = some (.slice elem)) (hs : (P.info? elem).map (·.size) = some n) {w : World} {g o dLen dCap b off sLen sCap m : Nat} {cs : Array Value}
    (hm : min sLen dLen = m) (hsrc : row? w b off (m * n) = some cs) (hdst : ∃ old, row? w g o (m * n) = some old) (hf : free? w g = true) (h1 : oneCells cs = true) :
    (cpRow #[dT, sT] ty #[.slice (some ⟨g, o, none⟩) dLen dCap, .slice (some ⟨b, off, none⟩) sLen sCap]).run P w = .ok (.int .i64 (m : Int)) (putRow w g o cs) := by
  unfold cpRow
  obtain ⟨old, hdst⟩ := hdst
  unfold free? at hf
  split at hf
  · rename_i c t fr hb
    obtain rfl : fr = (0, 0) := by simpa using hf
    rw [row_block hb] at hdst
    have hle := (rowOf_spec hdst).2.1
    have hl := run_loadCells_row (P := P) hsrc
    have hcs := (row_cells hsrc).1
    have hst := run_storeCells_at P g o t cs.toList 0 c w hb (by simp; omega) (fun v hv => by
      unfold oneCells at h1
      rw [← Array.all_toList] at h1
      exact List.all_eq_true.1 h1 v hv)
    rw [Nat.add_zero, putRow_setRow hb] at hst
    cases hq : P.info? elem with
    | none => rw [hq] at hs; cases hs
    | some i =>
      have hi : i.size = n := by simpa [hq] using hs
      have hm' : Nat.min sLen dLen = m := hm
      simp [Builtin.copy_, run_underlying hu, Builtin.lenOf, Builtin.firstCells, sizeOf, typeInfo, hq, hi, hm, hm', hl, hst, goInt]
  · cases hf

/-- what a copy leaves -/
@[irreducible] def onCp (m : Nat) (src : Option (Array Value)) (c : Bool) (w : World) (g o : Nat) (r : Result Value) : Result Value :=
  match src with
  | some cs => if c && oneCells cs then .ok (.int .i64 (m : Int)) (putRow w g o cs) else r
  | none => r
theorem onCp_some {m : Nat} {cs : Array Value} {w : World} {g o : Nat} {r : Result Value} (h : oneCells cs = true) : onCp m (some cs) true w g o r = .ok (.int .i64 (m : Int)) (putRow w g o cs) := by unfold onCp; simp [h]
theorem run_cpRow_on {P : Program} {dT sT ty elem : TypeId} {n : Nat} (hu : P.underlying dT = some (.slice elem)) (hs : (P.info? elem).map (·.size) = some n) (w : World) (g o dLen dCap b off sLen sCap : Nat) :
    (cpRow #[dT, sT] ty #[.slice (some ⟨g, o, none⟩) dLen dCap, .slice (some ⟨b, off, none⟩) sLen sCap]).run P w =
      onCp (min sLen dLen) (row? w b off (min sLen dLen * n)) ((row? w g o (min sLen dLen * n)).isSome && free? w g) w g o ((cpRow' #[dT, sT] ty #[.slice (some ⟨g, o, none⟩) dLen dCap, .slice (some ⟨b, off, none⟩) sLen sCap]).run P w) := by
  unfold onCp
  split
  · rename_i cs h
    split
    · rename_i h2
      simp only [Bool.and_eq_true] at h2
      obtain ⟨⟨h3, h4⟩, h5⟩ := h2
      obtain ⟨old, ho⟩ := Option.isSome_iff_exists.1 h3
      exact run_cpRow hu hs rfl h ⟨old, ho⟩ h4 h5
    · unfold cpRow cpRow'; rfl
  · unfold cpRow cpRow'; rfl
/-- copy of nothing -/
theorem run_cpRow_none {P : Program} {dT sT ty elem : TypeId} {n : Nat} (hu : P.underlying dT = some (.slice elem)) (hs : (P.info? elem).map (·.size) = some n) (w : World) (d : Addr) (dLen dCap : Nat) (A : Option Addr) (c : Nat) :
    (cpRow #[dT, sT] ty #[.slice (some d) dLen dCap, .slice A 0 c]).run P w = .ok (.int .i64 0) w := by
  unfold cpRow
  cases hq : P.info? elem with
  | none => rw [hq] at hs; cases hs
  | some i =>
    have hi : i.size = n := by simpa [hq] using hs
    cases A with
    | none => simp [Builtin.copy_, run_underlying hu, Builtin.lenOf, Builtin.firstCells, sizeOf, typeInfo, hq, storeCells, goInt]
    | some a =>
      have hl : (loadCells a [].length).run P w = .ok [].toArray w := run_loadCells_list (P := P) w a [] (by simp)
      rw [List.length_nil] at hl
      simp [Builtin.copy_, run_underlying hu, Builtin.lenOf, Builtin.firstCells, sizeOf, typeInfo, hq, storeCells, goInt, hl]
theorem flat_one' {α : Type} {enc : α → Array Value} {n : Nat} (hk : EncOk enc n) (xs : List α) : (flat enc xs).toArray.size = xs.length * n := by simp [flat_length hk]
theorem flat_be_size (xs : List (BitVec 8)) : (flat be xs).toArray.size = xs.length := by simp [flat_length be_ok]
theorem flat_be_one (xs : List (BitVec 8)) : oneCells (flat be xs).toArray = true := flat_oneCells be_ok xs
/-- bytes laid over others -/
def over {m : Nat} (b : Vector (BitVec 8) m) (xs : List (BitVec 8)) : Vector (BitVec 8) m := Vector.ofFn fun i => xs[i.1]?.getD b[i.1]
theorem over_get {m : Nat} (b : Vector (BitVec 8) m) (xs : List (BitVec 8)) (i : Nat) (h : i < m) : (over b xs)[i] = xs[i]?.getD b[i] := by unfold over; simp
theorem bArr_over {m : Nat} (b : Vector (BitVec 8) m) (xs : List (BitVec 8)) (h : xs.length ≤ m) : splice (bArr b) 0 (flat be xs).toArray = bArr (over b xs) := by
  apply Array.ext_getElem?
  intro i
  rw [splice_get (by rw [flat_be_size, bArr_size]; omega), flat_be_size]
  by_cases hm : i < m
  · rw [bArr_get b i hm, bArr_get _ i hm, over_get]
    by_cases hx : i < xs.length
    · rw [if_pos (by omega), flat_be]
      simp [hx]
    · rw [if_neg (by omega)]
      simp [hx]
  · rw [if_neg (by omega), Array.getElem?_eq_none (by rw [bArr_size]; omega), Array.getElem?_eq_none (by rw [bArr_size]; omega)]
theorem bArr_part {m : Nat} (b : Vector (BitVec 8) m) (n : Nat) (h : n ≤ m) : rowOf (bArr b) 0 n = some (flat be (b.toList.take n)).toArray := by
  unfold rowOf
  rw [if_pos (by rw [bArr_size]; omega)]
  congr 1
  apply Array.ext_getElem?
  intro i
  rw [Array.getElem?_extract, flat_be]
  by_cases hx : i < n
  · rw [if_pos (by rw [bArr_size]; omega), Nat.zero_add, bArr_get _ i (by omega)]
    simp [hx, show i < m from by omega]
  · rw [if_neg (by rw [bArr_size]; omega)]
    simp; omega
theorem splice_part {c cs part : Array Value} {off m : Nat} (h : rowOf c off m = some cs) (hp : part.size ≤ m) : splice c off part = splice c off (splice cs 0 part) := by
  obtain ⟨h1, h2, h3⟩ := rowOf_spec h
  have hs : (splice cs 0 part).size = m := by rw [splice_size _ _ _ (by omega)]; exact h1
  apply Array.ext_getElem?
  intro k
  rw [splice_get (by omega), splice_get (by omega), hs]
  by_cases hk : off ≤ k ∧ k < off + m
  · rw [if_pos hk, splice_get (by omega)]
    by_cases hk2 : k < off + part.size
    · rw [if_pos (by omega), if_pos (by omega)]; congr 1
    · rw [if_neg (by omega), if_neg (by omega)]
      have := h3 (k - off) (by omega)
      rw [show off + (k - off) = k from by omega] at this
      exact this
  · rw [if_neg (by omega), if_neg hk]
theorem rowOf_part {c cs : Array Value} {off m : Nat} (h : rowOf c off m = some cs) (n : Nat) (hn : n ≤ m) : rowOf c off n = rowOf cs 0 n := by
  have := rowOf_sub h (o := 0) (m := n) (by omega)
  simpa using this
theorem bArr_set {m : Nat} (b : Vector (BitVec 8) m) (i : Nat) (h : i < m) (x : BitVec 8) : splice (bArr b) i #[.int .u8 (B8 x)] = bArr (b.setIfInBounds i x) := by
  rw [splice_single _ _ _ (by rw [bArr_size]; exact h)]
  apply Array.ext_getElem?
  intro k
  rw [Array.getElem?_setIfInBounds, bArr_size]
  by_cases hm : k < m
  · rw [bArr_get _ k hm, bArr_get _ k hm]
    by_cases hk : i = k
    · subst hk; simp [h]
    · simp [hk]
  · rw [if_neg (by omega), Array.getElem?_eq_none (by rw [bArr_size]; omega), Array.getElem?_eq_none (by rw [bArr_size]; omega)]
theorem splice_row_one {c : Array Value} {off m : Nat} {b : Vector (BitVec 8) m} (h : rowOf c off m = some (bArr b)) (i : Nat) (hi : i < m) (x : BitVec 8) : splice c (off + i) #[.int .u8 (B8 x)] = splice c off (bArr (b.setIfInBounds i x)) := by
  obtain ⟨h1, h2, h3⟩ := rowOf_spec h
  have hs := bArr_size (b.setIfInBounds i x)
  apply Array.ext_getElem?
  intro k
  rw [splice_get (by simp; omega), splice_get (by omega), hs]
  by_cases hk : off ≤ k ∧ k < off + m
  · rw [if_pos hk]
    have hb := bArr_get (b.setIfInBounds i x) (k - off) (by omega)
    rw [hb]
    by_cases hki : k = off + i
    · subst hki
      rw [if_pos (by simp)]
      simp
    · rw [if_neg (by simp; omega)]
      have h4 := h3 (k - off) (by omega)
      rw [show off + (k - off) = k from by omega, bArr_get _ _ (by omega)] at h4
      rw [h4]
      congr 2
      simp [show ¬ i = k - off from by omega]
  · rw [if_neg (by simp; omega), if_neg hk]
attribute [go_sem] onCp_some flat_be_one flat_be_size

/-! ### equality, field by field -/
/-- a field (whether it is blank, its type, its place): whether both have it alike -/
def EqF (P : Program) (d : Nat) (xs ys : Array Value) (f : Bool × TypeId × Nat) (r : Bool) : Prop :=
  f.1 = false ∧ ∀ w, ∃ a b, (part f.2.1 xs f.2.2).run P w = .ok a w ∧ (part f.2.1 ys f.2.2).run P w = .ok b w ∧ (Op.equalIn d f.2.1 a b).run P w = .ok r w
def EqFs (P : Program) (d : Nat) (xs ys : Array Value) : List (Bool × TypeId × Nat) → Bool → Prop
  | [], r => r = true
  | f :: fs, r => ∃ a b, EqF P d xs ys f a ∧ EqFs P d xs ys fs b ∧ r = (a && b)
section
variable {P : Program} {d : Nat} {xs ys : Array Value} {t : TypeId} {off : Nat}
theorem EqFs.nil : EqFs P d xs ys [] true := rfl
theorem EqFs.cons {f : Bool × TypeId × Nat} {fs : List (Bool × TypeId × Nat)} {a b : Bool} (h : EqF P d xs ys f a) (k : EqFs P d xs ys fs b) : EqFs P d xs ys (f :: fs) (a && b) := ⟨a, b, h, k, rfl⟩
theorem EqF.int {k : IntKind} {a b : Int} (hu : P.underlying t = some (.int k)) (ha : xs[off]? = some (.int k a)) (hb : ys[off]? = some (.int k b)) : EqF P (d + 1) xs ys (false, t, off) (a == b) :=
  ⟨rfl, fun w => ⟨.int k a, .int k b, by simp [part, isAgg, run_underlying hu, ha], by simp [part, isAgg, run_underlying hu, hb], run_equalIn_int w d t k k a b hu⟩⟩
theorem EqF.u64 {a b : BitVec 64} (hu : P.underlying t = some (.int .u64)) (ha : xs[off]? = some (.int .u64 (D64 a))) (hb : ys[off]? = some (.int .u64 (D64 b))) : EqF P (d + 1) xs ys (false, t, off) (a == b) := by
  have h := EqF.int (d := d) hu ha hb
  rw [D64_beq] at h
  have e : decide (a = b) = (a == b) := by rw [Bool.eq_iff_iff]; simp
  rwa [e] at h
theorem EqF.bool {a b : Bool} (hu : P.underlying t = some .bool) (ha : xs[off]? = some (.bool a)) (hb : ys[off]? = some (.bool b)) : EqF P (d + 1) xs ys (false, t, off) (a == b) :=
  ⟨rfl, fun w => ⟨.bool a, .bool b, by simp [part, isAgg, run_underlying hu, ha], by simp [part, isAgg, run_underlying hu, hb], run_equalIn_bool w d t a b hu⟩⟩
theorem EqF.str {a b : ByteArray} (hu : P.underlying t = some .string) (ha : xs[off]? = some (.string a)) (hb : ys[off]? = some (.string b)) : EqF P (d + 1) xs ys (false, t, off) (a == b) :=
  ⟨rfl, fun w => ⟨.string a, .string b, by simp [part, isAgg, run_underlying hu, ha], by simp [part, isAgg, run_underlying hu, hb], by rw [run_equalIn_string w d t a b hu, beq_toListBytes]⟩⟩
theorem EqF.agg {n : Nat} {td : TypeDesc} {a b : Array Value} {r : Bool} (hu : P.underlying t = some td) (hd : (match td with | .struct _ | .array _ _ => true | _ => false) = true) (hi : (P.info? t).map (·.size) = some n)
    (ha : rowOf xs off n = some a) (hb : rowOf ys off n = some b) (he : ∀ w, (Op.equalIn d t (.agg a) (.agg b)).run P w = .ok r w) : EqF P d xs ys (false, t, off) r := by
  refine ⟨rfl, fun w => ⟨.agg a, .agg b, ?_, ?_, he w⟩⟩
  · unfold rowOf at ha
    split at ha
    · injection ha with ha
      cases hq : P.info? t with
      | none => rw [hq] at hi; cases hi
      | some i =>
        have hs' : i.size = n := by simpa [hq] using hi
        cases td <;> simp_all [part, isAgg, run_underlying hu, sizeOf, typeInfo]
    · cases ha
  · unfold rowOf at hb
    split at hb
    · injection hb with hb
      cases hq : P.info? t with
      | none => rw [hq] at hi; cases hi
      | some i =>
        have hs' : i.size = n := by simpa [hq] using hi
        cases td <;> simp_all [part, isAgg, run_underlying hu, sizeOf, typeInfo]
    · cases hb
theorem run_eqFields_of : ∀ (fs : List Field) (gs : List (Bool × TypeId × Nat)) (r : Bool), fs.map (fun f => (f.name == "_", f.type, f.offset)) = gs → EqFs P d xs ys gs r → ∀ w, (Op.eqFields d xs ys fs).run P w = .ok r w := by
  intro fs
  induction fs with
  | nil => intro gs r hg h w; subst hg; obtain rfl : r = true := h; simp [Op.eqFields]
  | cons f fs ih =>
    intro gs r hg h w
    subst hg
    obtain ⟨a, b, ⟨hn, h1⟩, h2, rfl⟩ := h
    obtain ⟨x, y, hx, hy, hr⟩ := h1 w
    have hn' : f.name ≠ "_" := by simpa using hn
    have hi := ih _ b rfl h2 w
    rw [Op.eqFields, if_pos hn']
    cases a <;> simp_all
theorem run_eq_struct {gs : List (Bool × TypeId × Nat)} {r : Bool} (ht : P.underlying t = some (.struct (P.fieldsOf t))) (hp : P.stoodInHeld t = false) (hf : (P.fieldsOf t).toList.map (fun f => (f.name == "_", f.type, f.offset)) = gs)
    (h : EqFs P d xs ys gs r) (w : World) : (Op.equalIn (d + 1) t (.agg xs) (.agg ys)).run P w = .ok r w := by
  rw [run_equalIn_struct w d t xs ys ht hp]
  exact run_eqFields_of _ gs r hf h w
theorem all_range_vec {n : Nat} (x y : Vector (BitVec 8) n) : ((List.range n).all fun i => B8 (x.getD i 0) == B8 (y.getD i 0)) = (x == y) := by
  rw [Bool.eq_iff_iff]
  simp only [List.all_eq_true, List.mem_range, beq_iff_eq, B8_inj]
  constructor
  · intro h
    apply Vector.ext
    intro i hi
    have := h i hi
    simpa [Vector.getD, hi] using this
  · rintro rfl i _; rfl
theorem run_eq_bytes {t e : TypeId} {n : Nat} (ht : P.underlying t = some (.array n e)) (he : P.underlying e = some (.int .u8)) (hsz : (P.info? e).map (·.size) = some 1)
    (d : Nat) (x y : Vector (BitVec 8) n) (w : World) : (Op.equalIn (d + 2) t (.agg (bArr x)) (.agg (bArr y))).run P w = .ok (x == y) w := by
  have hsz := run_sizeOf_some (P := P) hsz w
  rw [← all_range_vec, List.range_eq_range', Op.equalIn]
  simp only [Sem.run_bind, run_underlying ht, Result.andThen_ok, hsz, Std.Legacy.Range.forIn_eq_forIn_range', Std.Legacy.Range.size, Nat.sub_zero, Nat.add_sub_cancel, Nat.div_one]
  have hl : ∀ i ∈ List.range' 0 n 1, i < n := fun i hi => by simpa using (List.mem_range'_1.1 hi).2
  generalize List.range' 0 n 1 = l at hl ⊢
  induction l with
  | nil => simp
  | cons i l ih =>
    have hi : i < n := hl i (by simp)
    have px : (part e (bArr x) (i * 1)).run P w = .ok (.int .u8 (B8 (x.getD i 0))) w := by
      simp [part, isAgg, run_underlying he, bArr_get x i hi, Vector.getD, hi]
    have py : (part e (bArr y) (i * 1)).run P w = .ok (.int .u8 (B8 (y.getD i 0))) w := by
      simp [part, isAgg, run_underlying he, bArr_get y i hi, Vector.getD, hi]
    have pe : (Op.equalIn (d + 1) e (.int .u8 (B8 (x.getD i 0))) (.int .u8 (B8 (y.getD i 0)))).run P w = .ok (B8 (x.getD i 0) == B8 (y.getD i 0)) w :=
      run_equalIn_int w d e .u8 .u8 _ _ he
    simp only [List.forIn_cons, Sem.run_bind, px, py, pe, Result.andThen_ok, List.all_cons]
    cases hb : (B8 (x.getD i 0) == B8 (y.getD i 0))
    · simp
    · simp only [Bool.not_true, Bool.false_eq_true, if_false, Sem.run_pure, Result.andThen_ok, Bool.true_and]
      exact ih fun j hj => hl j (by simp [hj])
end

/-! ### composites -/
def fillS (place : Nat → Option (Nat × Nat)) (cells : Array Value) : List (Nat × Value) → Option (Array Value)
  | [] => some cells
  | (i, v) :: rest =>
    match place i with
    | none => none
    | some (off, size) => if v.cells.size = size ∧ off + size ≤ cells.size then fillS place (splice cells off v.cells) rest else none
/-- a part laid into its place -/
@[irreducible] def fillV (place : Nat → Option (Nat × Nat)) (cells : Array Value) (at_ : Option (Nat × Nat)) (vs : Array Value) (rest : List (Nat × Value)) : Option (Array Value) :=
  match at_ with
  | none => none
  | some (off, size) => if vs.size = size ∧ off + size ≤ cells.size then fillS place (splice cells off vs) rest else none
theorem fillV_some {place : Nat → Option (Nat × Nat)} {cells : Array Value} {off size : Nat} {vs : Array Value} {rest : List (Nat × Value)} (h1 : vs.size = size) (h2 : off + size ≤ cells.size) : fillV place cells (some (off, size)) vs rest = fillS place (splice cells off vs) rest := by
  unfold fillV
  simp only [h1, h2, and_self, if_true]
theorem fillS_nil (place : Nat → Option (Nat × Nat)) (cells : Array Value) : fillS place cells [] = some cells := rfl
section
variable (place : Nat → Option (Nat × Nat)) (cells : Array Value) (i : Nat) (rest : List (Nat × Value))
theorem fillS_agg (cs : Array Value) : fillS place cells ((i, .agg cs) :: rest) = fillV place cells (place i) cs rest := by unfold fillV; rfl
theorem fillS_int (k : IntKind) (x : Int) : fillS place cells ((i, .int k x) :: rest) = fillV place cells (place i) #[.int k x] rest := by unfold fillV; rfl
theorem fillS_bool (x : Bool) : fillS place cells ((i, .bool x) :: rest) = fillV place cells (place i) #[.bool x] rest := by unfold fillV; rfl
theorem fillS_string (x : ByteArray) : fillS place cells ((i, .string x) :: rest) = fillV place cells (place i) #[.string x] rest := by unfold fillV; rfl
theorem fillS_slice (A : Option Addr) (l c : Nat) : fillS place cells ((i, .slice A l c) :: rest) = fillV place cells (place i) #[.slice A l c] rest := by unfold fillV; rfl
end
attribute [go_sem] fillS_nil fillS_agg fillS_int fillS_bool fillS_string fillS_slice fillV_some
theorem foldl_splice (cells : Array Value) (off : Nat) (vs : List Value) : ∀ (k : Nat), off + k + vs.length ≤ cells.size →
    (vs.zipIdx k).foldl (fun cs (p : Value × Nat) => cs.setIfInBounds (off + p.2) p.1) cells = splice cells (off + k) vs.toArray := by
  induction vs generalizing cells with
  | nil =>
    intro k h
    apply Array.ext_getElem?
    intro i
    rw [splice_get (by simpa using h)]
    simp
    omega
  | cons v vs ih =>
    intro k h
    simp only [List.length_cons] at h
    rw [List.zipIdx_cons, List.foldl_cons, ih _ (k + 1) (by simp; omega)]
    apply Array.ext_getElem?
    intro i
    rw [splice_get (by simp; omega), splice_get (by simp; omega)]
    simp only [List.size_toArray, List.length_cons, List.getElem?_toArray, Array.getElem?_setIfInBounds]
    by_cases h1 : i = off + k
    · subst h1
      rw [if_neg (by omega), if_pos rfl, if_pos (by omega), if_pos (by omega)]; simp
    · by_cases h2 : off + k < i ∧ i < off + k + (vs.length + 1)
      · rw [if_pos (by omega), if_pos (by omega), show i - (off + k) = (i - (off + (k + 1))) + 1 from by omega, List.getElem?_cons_succ]
      · rw [if_neg (by omega), if_neg (by omega), if_neg (by omega)]
theorem fill_of_fillS {place : Nat → Option (Nat × Nat)} : ∀ (ps : List (Nat × Value)) (cells out : Array Value), fillS place cells ps = some out → Instr.fill place cells ps = some out := by
  intro ps
  induction ps with
  | nil => intro cells out h; simpa [fillS, Instr.fill] using h
  | cons p ps ih =>
    obtain ⟨i, v⟩ := p
    intro cells out h
    rw [fillS] at h
    rw [Instr.fill]
    cases hp : place i with
    | none => rw [hp] at h; cases h
    | some q =>
      obtain ⟨off, size⟩ := q
      rw [hp] at h
      simp only at h ⊢
      split at h
      · rename_i hc
        obtain ⟨h1, h2⟩ := hc
        rw [if_neg (by simp; omega)]
        have e := foldl_splice cells off v.cells.toList 0 (by simp; omega)
        have e2 : v.cells.zipIdx.foldl (fun cs (p : Value × Nat) => cs.setIfInBounds (off + p.2) p.1) cells = splice cells off v.cells := by
          rw [← Array.foldl_toList, Array.toList_zipIdx]
          simpa using e
        rw [e2]
        exact ih _ _ h
      · cases h
@[irreducible] def bdRow' (t : TypeId) (ps : Array (Nat × Value)) : Sem Value := Instr.build t ps
theorem run_bdRow {P : Program} {t : TypeId} {fs : Array Field} {z : Value} {places : List (Nat × Nat)} {place : Nat → Option (Nat × Nat)} (hu : P.underlying t = some (.struct fs)) (hz : (P.info? t).bind (·.zero) = some z)
    (hp : fs.toList.mapM (fun f => (P.info? f.type).map fun i => (f.offset, i.size)) = some places) (hpl : ∀ i, places.toArray[i]? = place i) (ps : List (Nat × Value)) (w : World) :
    (bdRow t ps.toArray).run P w = onRow (fillS place z.cells ps) w ((bdRow' t ps.toArray).run P w) := by
  unfold onRow bdRow
  split
  · rename_i cs h
    refine run_build w t ps.toArray cs ?_
    unfold Program.built
    cases hq : P.info? t with
    | none => rw [hq] at hz; cases hz
    | some i =>
      have hz' : i.zero = some z := by simpa [hq] using hz
      simp only [hu, hz', hp]
      rw [show (fun x : Nat => places.toArray[x]?) = place from funext hpl]
      exact fill_of_fillS ps _ _ h
  · unfold bdRow'; rfl

/-! ### slices of composites -/
theorem fillS_list {α : Type} {enc : α → Array Value} {n : Nat} (hk : EncOk enc n) : ∀ (xs : List α) (pre : List α) (rest : List Value), rest.length = xs.length * n →
    fillS (fun i => some (i * n, n)) (flat enc pre ++ rest).toArray ((xs.zipIdx pre.length).map fun p => (p.2, Value.agg (enc p.1))) = some (flat enc (pre ++ xs)).toArray := by
  intro xs
  induction xs with
  | nil =>
    intro pre rest h
    obtain rfl : rest = [] := List.eq_nil_of_length_eq_zero (by simpa using h)
    simp [fillS]
  | cons x xs ih =>
    intro pre rest h
    have hx := hk.size x
    have hp := flat_length hk pre
    have hl : rest.length = n + xs.length * n := by rw [h, List.length_cons, Nat.succ_mul]; omega
    rw [List.zipIdx_cons, List.map_cons, fillS]
    simp only
    rw [if_pos (by
      constructor
      · simpa [Value.cells] using hx
      · simp [hp]; omega)]
    have e : splice (flat enc pre ++ rest).toArray (pre.length * n) (Value.agg (enc x)).cells = (flat enc (pre ++ [x]) ++ rest.drop n).toArray := by
      show splice _ _ (enc x) = _
      unfold splice
      simp only [hx]
      congr 1
      rw [List.take_append_of_le_length (by omega), List.take_of_length_le (by omega), flat_append]
      have : flat enc [x] = (enc x).toList := by simp [flat]
      rw [this]
      congr 1
      rw [List.drop_append, List.drop_eq_nil_of_le (by omega), List.nil_append]
      congr 1
      omega
    rw [e]
    have := ih (pre ++ [x]) (rest.drop n) (by simp; omega)
    simpa using this
theorem run_bsRow_list {α : Type} {enc : α → Array Value} {P : Program} {t e : TypeId} {n bytes : Nat} (hT : SlT P t e n bytes) (hk : EncOk enc n) (xs : List α) (h0 : 0 < xs.length) (hs : xs.length * n ≤ 2 ^ 24) (parts : List (Nat × Value))
    (hp : parts = (xs.zipIdx 0).map fun p => (p.2, Value.agg (enc p.1))) (w : World) :
    (bsRow t xs.length parts.toArray).run P w = .ok (.slice (some ⟨w.heap.size, 0, none⟩) xs.length xs.length) (w.alloc (.cells (flat enc xs).toArray e)) := by
  unfold bsRow
  obtain ⟨ht, i, z, hi, hz, hsz, hb, hzs⟩ := hT
  have hn := hk.pos
  refine run_buildSlice w t e xs.length parts.toArray _ i z ht hi hz (by rw [hsz]; omega) (by rw [hsz]; have := Nat.mul_pos h0 hn; omega) ?_
  rw [hsz]
  refine fill_of_fillS _ _ _ ?_
  subst hp
  have h := fillS_list hk xs [] ((Array.range (xs.length * n)).map (z.cells[· % z.cells.size]!)).toList (by simp)
  rw [flat_nil, List.nil_append, Array.toArray_toList, List.nil_append] at h
  exact h
/-- a new row of elements -/
theorem Sl.made {α : Type} {enc : α → Array Value} {n : Nat} (hk : EncOk enc n) (w : World) (e : TypeId) (fr : Nat × Nat) (xs : List α) (hl : xs.length ≤ maxLen) : Sl enc n (w.alloc (.cells (flat enc xs).toArray e fr)) (.slice (some ⟨w.heap.size, 0, none⟩) xs.length xs.length) xs := by
  refine ⟨some ⟨w.heap.size, 0, none⟩, xs.length, rfl, Nat.le_refl _, hl, fun _ => ⟨w.heap.size, 0, rfl, by simp, fun i hi => ?_⟩⟩
  rw [row_alloc_at _ _ _ _ _ _ _ rfl, Nat.zero_add]
  have hf := flat_length hk xs
  have hle : i * n + n ≤ xs.length * n := by rw [← Nat.succ_mul]; exact Nat.mul_le_mul_right n hi
  unfold rowOf
  rw [if_pos (by simp; omega)]
  congr 1
  apply Array.ext_getElem?
  intro k
  rw [Array.getElem?_extract]
  by_cases hk' : k < n
  · rw [if_pos (by simp; omega), List.getElem?_toArray, flat_get hk xs i k hi hk']
  · have := hk.size xs[i]
    rw [if_neg (by simp; omega), Array.getElem?_eq_none (by omega)]
theorem flat_single {α : Type} (enc : α → Array Value) (x : α) : flat enc [x] = (enc x).toList := by simp [flat]
/-- an element's row -/
theorem SlAt.at {α : Type} {enc : α → Array Value} {n : Nat} {w : World} {b off : Nat} {xs : List α} (h : SlAt enc n w (some ⟨b, off, none⟩) xs) (i : Nat) (hi : i < xs.length) : row? w b (off + i * n) n = some (enc xs[i]) := by
  obtain ⟨b', off', e, _, hr⟩ := h (by omega)
  injection e with e
  injection e with e1 e2
  subst e1 e2
  exact hr i hi
/-- a number as a cell -/
def ie (n : Int) : Array Value := #[.int .i64 n]
theorem ie_ok : EncOk ie 1 := ⟨fun _ => rfl, fun _ => by simp [ie, oneCells, Value.oneCell'], by omega⟩
theorem ie_id (n : Int) (_ : (Lit.int .i64 n).wf = true) : ie n = #[.int .i64 n] := rfl
theorem SlAt.int {w : World} {b off : Nat} {xs : List Int} (h : ∀ i (h : i < xs.length), row? w b (off + i * 1) 1 = some (ie xs[i])) {i : Nat} (hi : i < xs.length) : w.cell? ⟨b, off + i, none⟩ = some (.int .i64 xs[i]) := by
  have := row_cell0 (h i hi) (by omega) (v := .int .i64 xs[i]) rfl
  simpa using this
theorem SlAt.byte' {w : World} {b off : Nat} {xs : List (BitVec 8)} (h : ∀ i (h : i < xs.length), row? w b (off + i * 1) 1 = some (be xs[i])) {i : Nat} (hi : i < xs.length) : w.cell? ⟨b, off + i, none⟩ = some (.int .u8 (B8 xs[i])) := by
  have := row_cell0 (h i hi) (by omega) (v := .int .u8 (B8 xs[i])) rfl
  simpa using this

/-! ### a variable's block, in a world that is not known else -/
def Box (w : World) (g : Nat) (cs : Array Value) (t : TypeId) : Prop := w.heap[g]? = some (.cells cs t (0, 0))
theorem Box.lt {w : World} {g : Nat} {cs : Array Value} {t : TypeId} (h : Box w g cs t) : g < w.heap.size := (Array.getElem?_eq_some_iff.1 h).1
theorem Box.cell {w : World} {g : Nat} {cs : Array Value} {t : TypeId} (h : Box w g cs t) (i : Nat) {v : Value} (hv : cs[i]? = some v) : w.cell? ⟨g, i, none⟩ = some v := by
  rw [cell_of_row w g i cs t (0, 0) h]; exact hv
theorem Box.frozen {w : World} {g : Nat} {cs : Array Value} {t : TypeId} (h : Box w g cs t) (i : Nat) : w.frozen? ⟨g, i, none⟩ = false := frozen_of_row w g i cs t h
theorem Box.row {w : World} {g : Nat} {cs : Array Value} {t : TypeId} (h : Box w g cs t) (off n : Nat) : row? w g off n = rowOf cs off n := row_block h
theorem Box.free {w : World} {g : Nat} {cs : Array Value} {t : TypeId} (h : Box w g cs t) : free? w g = true := by unfold free?; rw [h]; rfl
theorem Box.set {w : World} {g : Nat} {cs : Array Value} {t : TypeId} (h : Box w g cs t) (i : Nat) (v : Value) : Box (w.setCell ⟨g, i, none⟩ v) g (cs.setIfInBounds i v) t := heap_setCell_same w g i cs t v h
theorem Box.put {w : World} {g : Nat} {cs : Array Value} {t : TypeId} (h : Box w g cs t) (o : Nat) (c : Array Value) : Box (putRow w g o c) g (splice cs o c) t := putRow_heap_same h
theorem Box.ext {w w' : World} {g : Nat} {cs : Array Value} {t : TypeId} (h : Box w g cs t) (e : Ext w w') : Box w' g cs t := e.heap h
theorem Box.grown {w w' : World} {g : Nat} {cs : Array Value} {t : TypeId} {row : Option Nat} (h : Box w g cs t) (e : w.grownBy w' row) (hne : some g ≠ row) : Box w' g cs t := (e.block g h.lt hne).trans h
theorem Box.new {w : World} {g : Nat} {cs : Array Value} {t : TypeId} (h : g = w.heap.size) : Box (w.alloc (.cells cs t)) g cs t := by subst h; exact heap_alloc_new w _
theorem Box.past {w : World} {g : Nat} {cs : Array Value} {t : TypeId} (h : Box w g cs t) (o : Obj) : Box (w.alloc o) g cs t := (heap_old w o g h.lt).trans h
theorem Box.drew {w : World} {g : Nat} {cs : Array Value} {t : TypeId} (h : Box w g cs t) : Box w.drew g cs t := h
theorem Box.drewN {w : World} {g : Nat} {cs : Array Value} {t : TypeId} (h : Box w g cs t) (n : Nat) : Box (w.drewN n) g cs t := h
theorem gset {a w : World} {g : Nat} (h : a.grownBy w (some g)) (i : Nat) (v : Value) : a.grownBy (w.setCell ⟨g, i, none⟩ v) (some g) := by
  refine h.trans ⟨rfl, rfl, rfl, by simp [World.setCell], fun k hk hne => heap_setCell_other w _ k v ?_⟩
  intro e; exact hne (by rw [e])
theorem gput {a w : World} {g : Nat} (h : a.grownBy w (some g)) (o : Nat) (c : Array Value) : a.grownBy (putRow w g o c) (some g) :=
  h.trans ⟨rfl, rfl, rfl, by rw [putRow_size]; exact Nat.le_refl _, fun k hk hne => putRow_heap_other fun e => hne (by rw [e])⟩
theorem gext {a w w' : World} {row : Option Nat} (h : a.grownBy w row) (e : Ext w w') : a.grownBy w' row :=
  ⟨e.os.trans h.os, e.tape.trans h.tape, e.output.trans h.output, Nat.le_trans h.size e.size, fun k hk hne => (e.block k (Nat.lt_of_lt_of_le hk h.size)).trans (h.block k hk hne)⟩
/-- a variable's block as a slice of its elements -/
theorem Sl.box {α : Type} {enc : α → Array Value} {n : Nat} (hk : EncOk enc n) {w : World} {g : Nat} {cs : Array Value} {t : TypeId} {xs : List α} (h : Box w g cs t) (e : cs = (flat enc xs).toArray) (hl : xs.length ≤ maxLen) : Sl enc n w (.slice (some ⟨g, 0, none⟩) xs.length xs.length) xs := by
  subst e
  refine ⟨some ⟨g, 0, none⟩, xs.length, rfl, Nat.le_refl _, hl, fun _ => ⟨g, 0, rfl, h.lt, fun i hi => ?_⟩⟩
  rw [h.row, Nat.zero_add]
  have hf := flat_length hk xs
  have hle : i * n + n ≤ xs.length * n := by rw [← Nat.succ_mul]; exact Nat.mul_le_mul_right n hi
  unfold rowOf
  rw [if_pos (by simp; omega)]
  congr 1
  apply Array.ext_getElem?
  intro k
  rw [Array.getElem?_extract]
  by_cases hk' : k < n
  · rw [if_pos (by simp; omega), List.getElem?_toArray, flat_get hk xs i k hi hk']
  · have := hk.size xs[i]
    rw [if_neg (by simp; omega), Array.getElem?_eq_none (by omega)]
end Go.Proofs.Ytigbkhjcboecjaa
