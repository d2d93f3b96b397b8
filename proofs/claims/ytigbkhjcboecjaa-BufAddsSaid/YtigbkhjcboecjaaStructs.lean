/-
  The structs of package api as closed rows of cells: what a field reads as, what a store of a field leaves, zero values, composites, equality.
-/
import Derived.Test.YtigbkhjcboecjaaRows
import Derived.Test.YtigbkhjcboecjaaStructsBase
namespace Go.Proofs.Ytigbkhjcboecjaa
open Go Go.RowKit
set_option linter.unusedVariables false
set_option linter.unusedSimpArgs false

/-! ### [8]byte -/
theorem ba8_ld (v : Value) : Instr.loadAt 25 v = ldRow 25 v := ldRow_eq _ _
theorem ba8_load (b off : Nat) (w : World) : (ldRow 25 (.pointer (some ⟨b, off, none⟩))).run Try.prog w = onRow (row? w b off 8) w ((ldRow' 25 (.pointer (some ⟨b, off, none⟩))).run Try.prog w) :=
  run_ldRow Try.underlying25 rfl (by kernel_rfl) b off w
theorem ba8_st (a v : Value) : Instr.storeAt 25 a v = stRow 25 a v := stRow_eq _ _ _
theorem ba8_store (b off : Nat) (x : Vector (BitVec 8) 8) (w : World) :
    (stRow 25 (.pointer (some ⟨b, off, none⟩)) (.agg (bArr x))).run Try.prog w = onPut ((row? w b off 8).isSome && free? w b) (.ok () (putRow w b off (bArr x))) ((stRow' 25 (.pointer (some ⟨b, off, none⟩)) (.agg (bArr x))).run Try.prog w) :=
  run_stRow (by kernel_rfl) b off _ w (bArr_size x) (bArr_one x)
theorem ba8_eq (d : Nat) (x y : Vector (BitVec 8) 8) (w : World) : (Op.equalIn (d + 2) 25 (.agg (bArr x)) (.agg (bArr y))).run Try.prog w = .ok (x == y) w :=
  run_eq_bytes Try.underlying25 Try.underlying5 (by kernel_rfl) d x y w
attribute [go_sem ↓] ba8_ld ba8_st
attribute [go_sem] ba8_load ba8_store

/-! ### [16]byte -/
theorem ba16_ld (v : Value) : Instr.loadAt 32 v = ldRow 32 v := ldRow_eq _ _
theorem ba16_load (b off : Nat) (w : World) : (ldRow 32 (.pointer (some ⟨b, off, none⟩))).run Try.prog w = onRow (row? w b off 16) w ((ldRow' 32 (.pointer (some ⟨b, off, none⟩))).run Try.prog w) :=
  run_ldRow Try.underlying32 rfl (by kernel_rfl) b off w
theorem ba16_st (a v : Value) : Instr.storeAt 32 a v = stRow 32 a v := stRow_eq _ _ _
theorem ba16_store (b off : Nat) (x : Vector (BitVec 8) 16) (w : World) :
    (stRow 32 (.pointer (some ⟨b, off, none⟩)) (.agg (bArr x))).run Try.prog w = onPut ((row? w b off 16).isSome && free? w b) (.ok () (putRow w b off (bArr x))) ((stRow' 32 (.pointer (some ⟨b, off, none⟩)) (.agg (bArr x))).run Try.prog w) :=
  run_stRow (by kernel_rfl) b off _ w (bArr_size x) (bArr_one x)
theorem ba16_eq (d : Nat) (x y : Vector (BitVec 8) 16) (w : World) : (Op.equalIn (d + 2) 32 (.agg (bArr x)) (.agg (bArr y))).run Try.prog w = .ok (x == y) w :=
  run_eq_bytes Try.underlying32 Try.underlying5 (by kernel_rfl) d x y w
attribute [go_sem ↓] ba16_ld ba16_st
attribute [go_sem] ba16_load ba16_store

/-! ### api.Key -/
structure Key where
  n : Int
  b : Vector (BitVec 8) 8
def Key.beq (a b : Key) : Bool := a.n == b.n && a.b == b.b
theorem Key.beq_iff {a b : Key} : a.beq b = true ↔ a = b := by
  cases a; cases b
  simp [Key.beq, and_assoc]
instance : DecidableEq Key := fun a b => decidable_of_iff (a.beq b = true) Key.beq_iff
theorem Key.beq_dec (a b : Key) : a.beq b = decide (a = b) := by rw [Bool.eq_iff_iff, Key.beq_iff, decide_eq_true_eq]
@[irreducible] def Key.arr (s : Key) : Array Value := cat (cel (.int .i64 s.n)) (bArr s.b)
theorem Key.arr_def (s : Key) : s.arr = cat (cel (.int .i64 s.n)) (bArr s.b) := by unfold Key.arr; rfl
theorem Key.arr_size (s : Key) : s.arr.size = 9 := by rw [Key.arr_def]; simp [cat_size, cel_size, bArr_size]
theorem Key.arr_one (s : Key) : oneCells s.arr = true := by rw [Key.arr_def]; simp [oneCells_cat, oneCells_cel, Value.oneCell', bArr_one]
theorem Key.put (s x : Key) : splice s.arr 0 x.arr = x.arr := splice_full _ _ (by rw [Key.arr_size, Key.arr_size])
theorem Key.row (s : Key) : rowOf s.arr 0 9 = some s.arr := rowOf_full _ _ s.arr_size
theorem Key.arr_n (s : Key) : s.arr[0]? = some (.int .i64 s.n) := by
  refine get_of_row ?_; rw [Key.arr_def]; simp [rowOf_cat_left, rowOf_cat_right, rowOf_here, cat_size, cel_size, bArr_size]
theorem Key.get_n (s : Key) (hs : 0 < s.arr.size) : s.arr[0]'hs = .int .i64 s.n := (Array.getElem?_eq_some_iff.1 (Key.arr_n s)).2
theorem Key.put_n (s : Key) (x : Int) : splice s.arr 0 #[.int .i64 x] = ({ s with n := x } : Key).arr := by rw [Key.arr_def, Key.arr_def, ← cel_def]; simp [splice_cat_left, splice_cat_right, splice_all, cat_size, cel_size, bArr_size]
theorem Key.set_n (s : Key) (x : Int) : s.arr.setIfInBounds 0 (.int .i64 x) = ({ s with n := x } : Key).arr := (splice_single _ _ _ (by rw [Key.arr_size]; omega)).symm.trans (Key.put_n s x)
theorem Key.row_b (s : Key) : rowOf s.arr 1 8 = some (bArr s.b) := by rw [Key.arr_def]; simp [rowOf_cat_left, rowOf_cat_right, rowOf_here, cat_size, cel_size, bArr_size]
theorem Key.arr_b (s : Key) (i : Nat) (h : i < 8) : s.arr[1 + i]? = some (.int .u8 (B8 s.b[i])) := by
  have := rowOf_spec (Key.row_b s)
  rw [this.2.2 i h]; exact bArr_get _ i h
theorem Key.get_b (s : Key) (i : Nat) (h : i < 8) (hs : 1 + i < s.arr.size) : s.arr[1 + i]'hs = .int .u8 (B8 s.b[i]) := (Array.getElem?_eq_some_iff.1 (Key.arr_b s i h)).2
theorem Key.put_b (s : Key) (x : Vector (BitVec 8) 8) : splice s.arr 1 (bArr x) = ({ s with b := x } : Key).arr := by rw [Key.arr_def, Key.arr_def]; simp [splice_cat_left, splice_cat_right, splice_all, cat_size, cel_size, bArr_size]
theorem Key.setb_b (s : Key) (i : Nat) (h : i < 8) (x : BitVec 8) : s.arr.setIfInBounds (1 + i) (.int .u8 (B8 x)) = ({ s with b := s.b.setIfInBounds i x } : Key).arr := by
  have h2 := splice_row_one (Key.row_b s) i h x
  rw [Key.put_b] at h2
  exact (splice_single _ _ _ (by rw [Key.arr_size]; omega)).symm.trans h2
theorem Key.part_b (s : Key) (n : Nat) (h : n ≤ 8) : rowOf s.arr 1 n = some (flat be (s.b.toList.take n)).toArray := (rowOf_part (Key.row_b s) n h).trans (bArr_part s.b n h)
theorem Key.copy_b (s : Key) (xs : List (BitVec 8)) (h : xs.length ≤ 8) : splice s.arr 1 (flat be xs).toArray = ({ s with b := over s.b xs } : Key).arr := by rw [splice_part (Key.row_b s) (by rw [flat_be_size]; exact h), bArr_over _ _ h, Key.put_b]
def Key.zero : Key := { n := 0, b := Vector.replicate 8 0#8 }
theorem Key.zero_n : Key.zero.n = 0 := rfl
theorem Key.zero_b : Key.zero.b = Vector.replicate 8 0#8 := rfl
theorem Key.zero_arr : Key.zero.arr = #[.int .i64 0, .int .u8 0, .int .u8 0, .int .u8 0, .int .u8 0, .int .u8 0, .int .u8 0, .int .u8 0, .int .u8 0] := by rw [Key.arr_def]; simp [cat_def, cel_def, Key.zero, bArr_zero, D64_zero]
theorem Key.info : (Try.prog.info? 27).map (fun i => (i.zero, i.size)) = some (some (.agg Key.zero.arr), 9) := by rw [Key.zero_arr]; kernel_rfl
theorem Key.size' : (Try.prog.info? 27).map (·.size) = some 9 := by kernel_rfl
theorem Key.ld (v : Value) : Instr.loadAt 27 v = ldRow 27 v := ldRow_eq _ _
theorem Key.st (a v : Value) : Instr.storeAt 27 a v = stRow 27 a v := stRow_eq _ _ _
theorem Key.al (h : Bool) (v : Value) : Instr.alloc 27 h v = alRow 27 h v := alRow_eq _ _ _
theorem Key.bd (ps : Array (Nat × Value)) : Instr.build 27 ps = bdRow 27 ps := bdRow_eq _ _
theorem Key.load (b off : Nat) (w : World) : (ldRow 27 (.pointer (some ⟨b, off, none⟩))).run Try.prog w = onRow (row? w b off 9) w ((ldRow' 27 (.pointer (some ⟨b, off, none⟩))).run Try.prog w) :=
  run_ldRow Try.underlying27 rfl Key.size' b off w
theorem Key.store (b off : Nat) (s : Key) (w : World) : (stRow 27 (.pointer (some ⟨b, off, none⟩)) (.agg s.arr)).run Try.prog w = onPut ((row? w b off 9).isSome && free? w b) (.ok () (putRow w b off s.arr)) ((stRow' 27 (.pointer (some ⟨b, off, none⟩)) (.agg s.arr)).run Try.prog w) :=
  run_stRow Key.size' b off _ w s.arr_size s.arr_one
theorem Key.alloc (w : World) (v : Value) : (alRow 27 true v).run Try.prog w = .ok (.pointer (some ⟨w.heap.size, 0, none⟩)) (w.alloc (.cells Key.zero.arr 27)) :=
  run_alRow (z := .agg Key.zero.arr) (zero_of_info Key.info) w v
theorem Key.fields : (Try.prog.fieldsOf 27).toList.map (fun f => (f.name == "_", f.type, f.offset)) = [(false, 3, 0), (false, 25, 1)] := by kernel_rfl
theorem Key.under : Try.prog.underlying 27 = some (.struct (Try.prog.fieldsOf 27)) := by kernel_rfl
theorem Key.eq_ (d : Nat) (a b : Key) (w : World) : (Op.equalIn (d + 3) 27 (.agg a.arr) (.agg b.arr)).run Try.prog w = .ok (a.beq b) w := by
  have h := run_eq_struct Key.under (by kernel_rfl) Key.fields (EqFs.cons (EqF.int (d := (d + 1)) Try.underlying3 (Key.arr_n a) (Key.arr_n b)) (EqFs.cons (EqF.agg Try.underlying25 rfl (by kernel_rfl) (Key.row_b a) (Key.row_b b) (ba8_eq d _ _)) EqFs.nil)) w
  exact h.trans (by simp [Key.beq, Bool.and_assoc])
theorem Key.eqG : Try.prog.eqGuardType Try.prog.depth 27 = false := by kernel_rfl
theorem Key.eql (a b : Key) (w : World) : (binOp .eql 27 (.agg a.arr) (.agg b.arr)).run Try.prog w = .ok (.bool (decide (a = b))) w := by
  rw [run_eql_struct]; rw [show (10000 : Nat) = 9997 + 3 from rfl, Key.eq_, Key.beq_dec]; rfl
theorem Key.neq (a b : Key) (w : World) : (binOp .neq 27 (.agg a.arr) (.agg b.arr)).run Try.prog w = .ok (.bool (!decide (a = b))) w := by
  rw [run_neq_struct]; rw [show (10000 : Nat) = 9997 + 3 from rfl, Key.eq_, Key.beq_dec]; rfl
def Key.place : Nat → Option (Nat × Nat)
  | 0 => some (0, 1)
  | 1 => some (1, 8)
  | _ => none
theorem Key.places : (Try.prog.fieldsOf 27).toList.mapM (fun f => (Try.prog.info? f.type).map fun i => (f.offset, i.size)) = some [(0, 1), (1, 8)] := by kernel_rfl
theorem Key.build (ps : List (Nat × Value)) (w : World) : (bdRow 27 ps.toArray).run Try.prog w = onRow (fillS Key.place Key.zero.arr ps) w ((bdRow' 27 ps.toArray).run Try.prog w) :=
  run_bdRow Key.under (zero_of_info Key.info) Key.places (fun i => by match i with | 0 => rfl | 1 => rfl | n + 2 => rfl) ps w
theorem Key.place0 : Key.place 0 = some (0, 1) := rfl
theorem Key.place1 : Key.place 1 = some (1, 8) := rfl
attribute [go_sem ↓] Key.ld Key.st Key.al Key.bd Key.eql Key.neq
attribute [go_sem] Key.arr_size Key.arr_one Key.row Key.put Key.arr_n Key.get_n Key.put_n Key.set_n Key.row_b Key.arr_b Key.get_b Key.put_b Key.setb_b Key.part_b Key.copy_b Key.zero_n Key.zero_b Key.place0 Key.place1 Key.load Key.store Key.alloc Key.build Key.eqG
theorem Key.enc : EncOk Key.arr 9 := ⟨Key.arr_size, Key.arr_one, by omega⟩

/-! ### api.Value -/
structure Vl where
  n : Int
  b : Vector (BitVec 8) 16
def Vl.beq (a b : Vl) : Bool := a.n == b.n && a.b == b.b
theorem Vl.beq_iff {a b : Vl} : a.beq b = true ↔ a = b := by
  cases a; cases b
  simp [Vl.beq, and_assoc]
instance : DecidableEq Vl := fun a b => decidable_of_iff (a.beq b = true) Vl.beq_iff
theorem Vl.beq_dec (a b : Vl) : a.beq b = decide (a = b) := by rw [Bool.eq_iff_iff, Vl.beq_iff, decide_eq_true_eq]
@[irreducible] def Vl.arr (s : Vl) : Array Value := cat (cel (.int .i64 s.n)) (bArr s.b)
theorem Vl.arr_def (s : Vl) : s.arr = cat (cel (.int .i64 s.n)) (bArr s.b) := by unfold Vl.arr; rfl
theorem Vl.arr_size (s : Vl) : s.arr.size = 17 := by rw [Vl.arr_def]; simp [cat_size, cel_size, bArr_size]
theorem Vl.arr_one (s : Vl) : oneCells s.arr = true := by rw [Vl.arr_def]; simp [oneCells_cat, oneCells_cel, Value.oneCell', bArr_one]
theorem Vl.put (s x : Vl) : splice s.arr 0 x.arr = x.arr := splice_full _ _ (by rw [Vl.arr_size, Vl.arr_size])
theorem Vl.row (s : Vl) : rowOf s.arr 0 17 = some s.arr := rowOf_full _ _ s.arr_size
theorem Vl.arr_n (s : Vl) : s.arr[0]? = some (.int .i64 s.n) := by
  refine get_of_row ?_; rw [Vl.arr_def]; simp [rowOf_cat_left, rowOf_cat_right, rowOf_here, cat_size, cel_size, bArr_size]
theorem Vl.get_n (s : Vl) (hs : 0 < s.arr.size) : s.arr[0]'hs = .int .i64 s.n := (Array.getElem?_eq_some_iff.1 (Vl.arr_n s)).2
theorem Vl.put_n (s : Vl) (x : Int) : splice s.arr 0 #[.int .i64 x] = ({ s with n := x } : Vl).arr := by rw [Vl.arr_def, Vl.arr_def, ← cel_def]; simp [splice_cat_left, splice_cat_right, splice_all, cat_size, cel_size, bArr_size]
theorem Vl.set_n (s : Vl) (x : Int) : s.arr.setIfInBounds 0 (.int .i64 x) = ({ s with n := x } : Vl).arr := (splice_single _ _ _ (by rw [Vl.arr_size]; omega)).symm.trans (Vl.put_n s x)
theorem Vl.row_b (s : Vl) : rowOf s.arr 1 16 = some (bArr s.b) := by rw [Vl.arr_def]; simp [rowOf_cat_left, rowOf_cat_right, rowOf_here, cat_size, cel_size, bArr_size]
theorem Vl.arr_b (s : Vl) (i : Nat) (h : i < 16) : s.arr[1 + i]? = some (.int .u8 (B8 s.b[i])) := by
  have := rowOf_spec (Vl.row_b s)
  rw [this.2.2 i h]; exact bArr_get _ i h
theorem Vl.get_b (s : Vl) (i : Nat) (h : i < 16) (hs : 1 + i < s.arr.size) : s.arr[1 + i]'hs = .int .u8 (B8 s.b[i]) := (Array.getElem?_eq_some_iff.1 (Vl.arr_b s i h)).2
theorem Vl.put_b (s : Vl) (x : Vector (BitVec 8) 16) : splice s.arr 1 (bArr x) = ({ s with b := x } : Vl).arr := by rw [Vl.arr_def, Vl.arr_def]; simp [splice_cat_left, splice_cat_right, splice_all, cat_size, cel_size, bArr_size]
theorem Vl.setb_b (s : Vl) (i : Nat) (h : i < 16) (x : BitVec 8) : s.arr.setIfInBounds (1 + i) (.int .u8 (B8 x)) = ({ s with b := s.b.setIfInBounds i x } : Vl).arr := by
  have h2 := splice_row_one (Vl.row_b s) i h x
  rw [Vl.put_b] at h2
  exact (splice_single _ _ _ (by rw [Vl.arr_size]; omega)).symm.trans h2
theorem Vl.part_b (s : Vl) (n : Nat) (h : n ≤ 16) : rowOf s.arr 1 n = some (flat be (s.b.toList.take n)).toArray := (rowOf_part (Vl.row_b s) n h).trans (bArr_part s.b n h)
theorem Vl.copy_b (s : Vl) (xs : List (BitVec 8)) (h : xs.length ≤ 16) : splice s.arr 1 (flat be xs).toArray = ({ s with b := over s.b xs } : Vl).arr := by rw [splice_part (Vl.row_b s) (by rw [flat_be_size]; exact h), bArr_over _ _ h, Vl.put_b]
def Vl.zero : Vl := { n := 0, b := Vector.replicate 16 0#8 }
theorem Vl.zero_n : Vl.zero.n = 0 := rfl
theorem Vl.zero_b : Vl.zero.b = Vector.replicate 16 0#8 := rfl
theorem Vl.zero_arr : Vl.zero.arr = #[.int .i64 0, .int .u8 0, .int .u8 0, .int .u8 0, .int .u8 0, .int .u8 0, .int .u8 0, .int .u8 0, .int .u8 0, .int .u8 0, .int .u8 0, .int .u8 0, .int .u8 0, .int .u8 0, .int .u8 0, .int .u8 0, .int .u8 0] := by rw [Vl.arr_def]; simp [cat_def, cel_def, Vl.zero, bArr_zero, D64_zero]
theorem Vl.info : (Try.prog.info? 34).map (fun i => (i.zero, i.size)) = some (some (.agg Vl.zero.arr), 17) := by rw [Vl.zero_arr]; kernel_rfl
theorem Vl.size' : (Try.prog.info? 34).map (·.size) = some 17 := by kernel_rfl
theorem Vl.ld (v : Value) : Instr.loadAt 34 v = ldRow 34 v := ldRow_eq _ _
theorem Vl.st (a v : Value) : Instr.storeAt 34 a v = stRow 34 a v := stRow_eq _ _ _
theorem Vl.al (h : Bool) (v : Value) : Instr.alloc 34 h v = alRow 34 h v := alRow_eq _ _ _
theorem Vl.bd (ps : Array (Nat × Value)) : Instr.build 34 ps = bdRow 34 ps := bdRow_eq _ _
theorem Vl.load (b off : Nat) (w : World) : (ldRow 34 (.pointer (some ⟨b, off, none⟩))).run Try.prog w = onRow (row? w b off 17) w ((ldRow' 34 (.pointer (some ⟨b, off, none⟩))).run Try.prog w) :=
  run_ldRow Try.underlying34 rfl Vl.size' b off w
theorem Vl.store (b off : Nat) (s : Vl) (w : World) : (stRow 34 (.pointer (some ⟨b, off, none⟩)) (.agg s.arr)).run Try.prog w = onPut ((row? w b off 17).isSome && free? w b) (.ok () (putRow w b off s.arr)) ((stRow' 34 (.pointer (some ⟨b, off, none⟩)) (.agg s.arr)).run Try.prog w) :=
  run_stRow Vl.size' b off _ w s.arr_size s.arr_one
theorem Vl.alloc (w : World) (v : Value) : (alRow 34 true v).run Try.prog w = .ok (.pointer (some ⟨w.heap.size, 0, none⟩)) (w.alloc (.cells Vl.zero.arr 34)) :=
  run_alRow (z := .agg Vl.zero.arr) (zero_of_info Vl.info) w v
theorem Vl.fields : (Try.prog.fieldsOf 34).toList.map (fun f => (f.name == "_", f.type, f.offset)) = [(false, 3, 0), (false, 32, 1)] := by kernel_rfl
theorem Vl.under : Try.prog.underlying 34 = some (.struct (Try.prog.fieldsOf 34)) := by kernel_rfl
theorem Vl.eq_ (d : Nat) (a b : Vl) (w : World) : (Op.equalIn (d + 3) 34 (.agg a.arr) (.agg b.arr)).run Try.prog w = .ok (a.beq b) w := by
  have h := run_eq_struct Vl.under (by kernel_rfl) Vl.fields (EqFs.cons (EqF.int (d := (d + 1)) Try.underlying3 (Vl.arr_n a) (Vl.arr_n b)) (EqFs.cons (EqF.agg Try.underlying32 rfl (by kernel_rfl) (Vl.row_b a) (Vl.row_b b) (ba16_eq d _ _)) EqFs.nil)) w
  exact h.trans (by simp [Vl.beq, Bool.and_assoc])
theorem Vl.eqG : Try.prog.eqGuardType Try.prog.depth 34 = false := by kernel_rfl
theorem Vl.eql (a b : Vl) (w : World) : (binOp .eql 34 (.agg a.arr) (.agg b.arr)).run Try.prog w = .ok (.bool (decide (a = b))) w := by
  rw [run_eql_struct]; rw [show (10000 : Nat) = 9997 + 3 from rfl, Vl.eq_, Vl.beq_dec]; rfl
theorem Vl.neq (a b : Vl) (w : World) : (binOp .neq 34 (.agg a.arr) (.agg b.arr)).run Try.prog w = .ok (.bool (!decide (a = b))) w := by
  rw [run_neq_struct]; rw [show (10000 : Nat) = 9997 + 3 from rfl, Vl.eq_, Vl.beq_dec]; rfl
def Vl.place : Nat → Option (Nat × Nat)
  | 0 => some (0, 1)
  | 1 => some (1, 16)
  | _ => none
theorem Vl.places : (Try.prog.fieldsOf 34).toList.mapM (fun f => (Try.prog.info? f.type).map fun i => (f.offset, i.size)) = some [(0, 1), (1, 16)] := by kernel_rfl
theorem Vl.build (ps : List (Nat × Value)) (w : World) : (bdRow 34 ps.toArray).run Try.prog w = onRow (fillS Vl.place Vl.zero.arr ps) w ((bdRow' 34 ps.toArray).run Try.prog w) :=
  run_bdRow Vl.under (zero_of_info Vl.info) Vl.places (fun i => by match i with | 0 => rfl | 1 => rfl | n + 2 => rfl) ps w
theorem Vl.place0 : Vl.place 0 = some (0, 1) := rfl
theorem Vl.place1 : Vl.place 1 = some (1, 16) := rfl
attribute [go_sem ↓] Vl.ld Vl.st Vl.al Vl.bd Vl.eql Vl.neq
attribute [go_sem] Vl.arr_size Vl.arr_one Vl.row Vl.put Vl.arr_n Vl.get_n Vl.put_n Vl.set_n Vl.row_b Vl.arr_b Vl.get_b Vl.put_b Vl.setb_b Vl.part_b Vl.copy_b Vl.zero_n Vl.zero_b Vl.place0 Vl.place1 Vl.load Vl.store Vl.alloc Vl.build Vl.eqG
theorem Vl.enc : EncOk Vl.arr 17 := ⟨Vl.arr_size, Vl.arr_one, by omega⟩

/-! ### api.Msg -/
structure Msg where
  kind : Int
  seq : BitVec 64
  key : Key
  val : Vl
  add : BitVec 64
def Msg.beq (a b : Msg) : Bool := a.kind == b.kind && a.seq == b.seq && a.key.beq b.key && a.val.beq b.val && a.add == b.add
theorem Msg.beq_iff {a b : Msg} : a.beq b = true ↔ a = b := by
  cases a; cases b
  simp [Msg.beq, and_assoc, Key.beq_iff, Vl.beq_iff]
instance : DecidableEq Msg := fun a b => decidable_of_iff (a.beq b = true) Msg.beq_iff
theorem Msg.beq_dec (a b : Msg) : a.beq b = decide (a = b) := by rw [Bool.eq_iff_iff, Msg.beq_iff, decide_eq_true_eq]
@[irreducible] def Msg.arr (s : Msg) : Array Value := cat (cat (cat (cat (cel (.int .i64 s.kind)) (cel (.int .u64 (D64 s.seq)))) (s.key.arr)) (s.val.arr)) (cel (.int .u64 (D64 s.add)))
theorem Msg.arr_def (s : Msg) : s.arr = cat (cat (cat (cat (cel (.int .i64 s.kind)) (cel (.int .u64 (D64 s.seq)))) (s.key.arr)) (s.val.arr)) (cel (.int .u64 (D64 s.add))) := by unfold Msg.arr; rfl
theorem Msg.arr_size (s : Msg) : s.arr.size = 29 := by rw [Msg.arr_def]; simp [cat_size, cel_size, Key.arr_size, Vl.arr_size]
theorem Msg.arr_one (s : Msg) : oneCells s.arr = true := by rw [Msg.arr_def]; simp [oneCells_cat, oneCells_cel, Value.oneCell', Key.arr_one, Vl.arr_one]
theorem Msg.put (s x : Msg) : splice s.arr 0 x.arr = x.arr := splice_full _ _ (by rw [Msg.arr_size, Msg.arr_size])
theorem Msg.row (s : Msg) : rowOf s.arr 0 29 = some s.arr := rowOf_full _ _ s.arr_size
theorem Msg.arr_kind (s : Msg) : s.arr[0]? = some (.int .i64 s.kind) := by
  refine get_of_row ?_; rw [Msg.arr_def]; simp [rowOf_cat_left, rowOf_cat_right, rowOf_here, cat_size, cel_size, Key.arr_size, Vl.arr_size]
theorem Msg.get_kind (s : Msg) (hs : 0 < s.arr.size) : s.arr[0]'hs = .int .i64 s.kind := (Array.getElem?_eq_some_iff.1 (Msg.arr_kind s)).2
theorem Msg.put_kind (s : Msg) (x : Int) : splice s.arr 0 #[.int .i64 x] = ({ s with kind := x } : Msg).arr := by rw [Msg.arr_def, Msg.arr_def, ← cel_def]; simp [splice_cat_left, splice_cat_right, splice_all, cat_size, cel_size, Key.arr_size, Vl.arr_size]
theorem Msg.set_kind (s : Msg) (x : Int) : s.arr.setIfInBounds 0 (.int .i64 x) = ({ s with kind := x } : Msg).arr := (splice_single _ _ _ (by rw [Msg.arr_size]; omega)).symm.trans (Msg.put_kind s x)
theorem Msg.arr_seq (s : Msg) : s.arr[1]? = some (.int .u64 (D64 s.seq)) := by
  refine get_of_row ?_; rw [Msg.arr_def]; simp [rowOf_cat_left, rowOf_cat_right, rowOf_here, cat_size, cel_size, Key.arr_size, Vl.arr_size]
theorem Msg.get_seq (s : Msg) (hs : 1 < s.arr.size) : s.arr[1]'hs = .int .u64 (D64 s.seq) := (Array.getElem?_eq_some_iff.1 (Msg.arr_seq s)).2
theorem Msg.put_seq (s : Msg) (x : BitVec 64) : splice s.arr 1 #[.int .u64 (D64 x)] = ({ s with seq := x } : Msg).arr := by rw [Msg.arr_def, Msg.arr_def, ← cel_def]; simp [splice_cat_left, splice_cat_right, splice_all, cat_size, cel_size, Key.arr_size, Vl.arr_size]
theorem Msg.set_seq (s : Msg) (x : BitVec 64) : s.arr.setIfInBounds 1 (.int .u64 (D64 x)) = ({ s with seq := x } : Msg).arr := (splice_single _ _ _ (by rw [Msg.arr_size]; omega)).symm.trans (Msg.put_seq s x)
theorem Msg.row_key (s : Msg) : rowOf s.arr 2 9 = some (s.key.arr) := by rw [Msg.arr_def]; simp [rowOf_cat_left, rowOf_cat_right, rowOf_here, cat_size, cel_size, Key.arr_size, Vl.arr_size]
theorem Msg.put_key (s : Msg) (x : Key) : splice s.arr 2 (x.arr) = ({ s with key := x } : Msg).arr := by rw [Msg.arr_def, Msg.arr_def]; simp [splice_cat_left, splice_cat_right, splice_all, cat_size, cel_size, Key.arr_size, Vl.arr_size]
theorem Msg.row_val (s : Msg) : rowOf s.arr 11 17 = some (s.val.arr) := by rw [Msg.arr_def]; simp [rowOf_cat_left, rowOf_cat_right, rowOf_here, cat_size, cel_size, Key.arr_size, Vl.arr_size]
theorem Msg.put_val (s : Msg) (x : Vl) : splice s.arr 11 (x.arr) = ({ s with val := x } : Msg).arr := by rw [Msg.arr_def, Msg.arr_def]; simp [splice_cat_left, splice_cat_right, splice_all, cat_size, cel_size, Key.arr_size, Vl.arr_size]
theorem Msg.arr_add (s : Msg) : s.arr[28]? = some (.int .u64 (D64 s.add)) := by
  refine get_of_row ?_; rw [Msg.arr_def]; simp [rowOf_cat_left, rowOf_cat_right, rowOf_here, cat_size, cel_size, Key.arr_size, Vl.arr_size]
theorem Msg.get_add (s : Msg) (hs : 28 < s.arr.size) : s.arr[28]'hs = .int .u64 (D64 s.add) := (Array.getElem?_eq_some_iff.1 (Msg.arr_add s)).2
theorem Msg.put_add (s : Msg) (x : BitVec 64) : splice s.arr 28 #[.int .u64 (D64 x)] = ({ s with add := x } : Msg).arr := by rw [Msg.arr_def, Msg.arr_def, ← cel_def]; simp [splice_cat_left, splice_cat_right, splice_all, cat_size, cel_size, Key.arr_size, Vl.arr_size]
theorem Msg.set_add (s : Msg) (x : BitVec 64) : s.arr.setIfInBounds 28 (.int .u64 (D64 x)) = ({ s with add := x } : Msg).arr := (splice_single _ _ _ (by rw [Msg.arr_size]; omega)).symm.trans (Msg.put_add s x)
def Msg.zero : Msg := { kind := 0, seq := 0#64, key := Key.zero, val := Vl.zero, add := 0#64 }
theorem Msg.zero_kind : Msg.zero.kind = 0 := rfl
theorem Msg.zero_seq : Msg.zero.seq = 0#64 := rfl
theorem Msg.zero_key : Msg.zero.key = Key.zero := rfl
theorem Msg.zero_val : Msg.zero.val = Vl.zero := rfl
theorem Msg.zero_add : Msg.zero.add = 0#64 := rfl
theorem Msg.zero_arr : Msg.zero.arr = #[.int .i64 0, .int .u64 0, .int .i64 0, .int .u8 0, .int .u8 0, .int .u8 0, .int .u8 0, .int .u8 0, .int .u8 0, .int .u8 0, .int .u8 0, .int .i64 0, .int .u8 0, .int .u8 0, .int .u8 0, .int .u8 0, .int .u8 0, .int .u8 0, .int .u8 0, .int .u8 0, .int .u8 0, .int .u8 0, .int .u8 0, .int .u8 0, .int .u8 0, .int .u8 0, .int .u8 0, .int .u8 0, .int .u64 0] := by rw [Msg.arr_def]; simp [cat_def, cel_def, Msg.zero, bArr_zero, D64_zero, Key.zero_arr, Vl.zero_arr]
theorem Msg.info : (Try.prog.info? 36).map (fun i => (i.zero, i.size)) = some (some (.agg Msg.zero.arr), 29) := by rw [Msg.zero_arr]; kernel_rfl
theorem Msg.size' : (Try.prog.info? 36).map (·.size) = some 29 := by kernel_rfl
theorem Msg.ld (v : Value) : Instr.loadAt 36 v = ldRow 36 v := ldRow_eq _ _
theorem Msg.st (a v : Value) : Instr.storeAt 36 a v = stRow 36 a v := stRow_eq _ _ _
theorem Msg.al (h : Bool) (v : Value) : Instr.alloc 36 h v = alRow 36 h v := alRow_eq _ _ _
theorem Msg.bd (ps : Array (Nat × Value)) : Instr.build 36 ps = bdRow 36 ps := bdRow_eq _ _
theorem Msg.load (b off : Nat) (w : World) : (ldRow 36 (.pointer (some ⟨b, off, none⟩))).run Try.prog w = onRow (row? w b off 29) w ((ldRow' 36 (.pointer (some ⟨b, off, none⟩))).run Try.prog w) :=
  run_ldRow Try.underlying36 rfl Msg.size' b off w
theorem Msg.store (b off : Nat) (s : Msg) (w : World) : (stRow 36 (.pointer (some ⟨b, off, none⟩)) (.agg s.arr)).run Try.prog w = onPut ((row? w b off 29).isSome && free? w b) (.ok () (putRow w b off s.arr)) ((stRow' 36 (.pointer (some ⟨b, off, none⟩)) (.agg s.arr)).run Try.prog w) :=
  run_stRow Msg.size' b off _ w s.arr_size s.arr_one
theorem Msg.alloc (w : World) (v : Value) : (alRow 36 true v).run Try.prog w = .ok (.pointer (some ⟨w.heap.size, 0, none⟩)) (w.alloc (.cells Msg.zero.arr 36)) :=
  run_alRow (z := .agg Msg.zero.arr) (zero_of_info Msg.info) w v
theorem Msg.fields : (Try.prog.fieldsOf 36).toList.map (fun f => (f.name == "_", f.type, f.offset)) = [(false, 3, 0), (false, 31, 1), (false, 27, 2), (false, 34, 11), (false, 31, 28)] := by kernel_rfl
theorem Msg.under : Try.prog.underlying 36 = some (.struct (Try.prog.fieldsOf 36)) := by kernel_rfl
theorem Msg.eq_ (d : Nat) (a b : Msg) (w : World) : (Op.equalIn (d + 4) 36 (.agg a.arr) (.agg b.arr)).run Try.prog w = .ok (a.beq b) w := by
  have h := run_eq_struct Msg.under (by kernel_rfl) Msg.fields (EqFs.cons (EqF.int (d := (d + 2)) Try.underlying3 (Msg.arr_kind a) (Msg.arr_kind b)) (EqFs.cons (EqF.u64 (d := (d + 2)) Try.underlying31 (Msg.arr_seq a) (Msg.arr_seq b)) (EqFs.cons (EqF.agg Try.underlying27 rfl (by kernel_rfl) (Msg.row_key a) (Msg.row_key b) (Key.eq_ d _ _)) (EqFs.cons (EqF.agg Try.underlying34 rfl (by kernel_rfl) (Msg.row_val a) (Msg.row_val b) (Vl.eq_ d _ _)) (EqFs.cons (EqF.u64 (d := (d + 2)) Try.underlying31 (Msg.arr_add a) (Msg.arr_add b)) EqFs.nil))))) w
  exact h.trans (by simp [Msg.beq, Bool.and_assoc])
theorem Msg.eqG : Try.prog.eqGuardType Try.prog.depth 36 = false := by kernel_rfl
theorem Msg.eql (a b : Msg) (w : World) : (binOp .eql 36 (.agg a.arr) (.agg b.arr)).run Try.prog w = .ok (.bool (decide (a = b))) w := by
  rw [run_eql_struct]; rw [show (10000 : Nat) = 9996 + 4 from rfl, Msg.eq_, Msg.beq_dec]; rfl
theorem Msg.neq (a b : Msg) (w : World) : (binOp .neq 36 (.agg a.arr) (.agg b.arr)).run Try.prog w = .ok (.bool (!decide (a = b))) w := by
  rw [run_neq_struct]; rw [show (10000 : Nat) = 9996 + 4 from rfl, Msg.eq_, Msg.beq_dec]; rfl
def Msg.place : Nat → Option (Nat × Nat)
  | 0 => some (0, 1)
  | 1 => some (1, 1)
  | 2 => some (2, 9)
  | 3 => some (11, 17)
  | 4 => some (28, 1)
  | _ => none
theorem Msg.places : (Try.prog.fieldsOf 36).toList.mapM (fun f => (Try.prog.info? f.type).map fun i => (f.offset, i.size)) = some [(0, 1), (1, 1), (2, 9), (11, 17), (28, 1)] := by kernel_rfl
theorem Msg.build (ps : List (Nat × Value)) (w : World) : (bdRow 36 ps.toArray).run Try.prog w = onRow (fillS Msg.place Msg.zero.arr ps) w ((bdRow' 36 ps.toArray).run Try.prog w) :=
  run_bdRow Msg.under (zero_of_info Msg.info) Msg.places (fun i => by match i with | 0 => rfl | 1 => rfl | 2 => rfl | 3 => rfl | 4 => rfl | n + 5 => rfl) ps w
theorem Msg.place0 : Msg.place 0 = some (0, 1) := rfl
theorem Msg.place1 : Msg.place 1 = some (1, 1) := rfl
theorem Msg.place2 : Msg.place 2 = some (2, 9) := rfl
theorem Msg.place3 : Msg.place 3 = some (11, 17) := rfl
theorem Msg.place4 : Msg.place 4 = some (28, 1) := rfl
attribute [go_sem ↓] Msg.ld Msg.st Msg.al Msg.bd Msg.eql Msg.neq
attribute [go_sem] Msg.arr_size Msg.arr_one Msg.row Msg.put Msg.arr_kind Msg.get_kind Msg.put_kind Msg.set_kind Msg.arr_seq Msg.get_seq Msg.put_seq Msg.set_seq Msg.row_key Msg.put_key Msg.row_val Msg.put_val Msg.arr_add Msg.get_add Msg.put_add Msg.set_add Msg.zero_kind Msg.zero_seq Msg.zero_key Msg.zero_val Msg.zero_add Msg.place0 Msg.place1 Msg.place2 Msg.place3 Msg.place4 Msg.load Msg.store Msg.alloc Msg.build Msg.eqG
theorem Msg.enc : EncOk Msg.arr 29 := ⟨Msg.arr_size, Msg.arr_one, by omega⟩

/-! ### api.Entry -/
structure Ent where
  key : Key
  val : Vl
def Ent.beq (a b : Ent) : Bool := a.key.beq b.key && a.val.beq b.val
theorem Ent.beq_iff {a b : Ent} : a.beq b = true ↔ a = b := by
  cases a; cases b
  simp [Ent.beq, and_assoc, Key.beq_iff, Vl.beq_iff]
instance : DecidableEq Ent := fun a b => decidable_of_iff (a.beq b = true) Ent.beq_iff
theorem Ent.beq_dec (a b : Ent) : a.beq b = decide (a = b) := by rw [Bool.eq_iff_iff, Ent.beq_iff, decide_eq_true_eq]
@[irreducible] def Ent.arr (s : Ent) : Array Value := cat (s.key.arr) (s.val.arr)
theorem Ent.arr_def (s : Ent) : s.arr = cat (s.key.arr) (s.val.arr) := by unfold Ent.arr; rfl
theorem Ent.arr_size (s : Ent) : s.arr.size = 26 := by rw [Ent.arr_def]; simp [cat_size, cel_size, Key.arr_size, Vl.arr_size]
theorem Ent.arr_one (s : Ent) : oneCells s.arr = true := by rw [Ent.arr_def]; simp [oneCells_cat, oneCells_cel, Value.oneCell', Key.arr_one, Vl.arr_one]
theorem Ent.put (s x : Ent) : splice s.arr 0 x.arr = x.arr := splice_full _ _ (by rw [Ent.arr_size, Ent.arr_size])
theorem Ent.row (s : Ent) : rowOf s.arr 0 26 = some s.arr := rowOf_full _ _ s.arr_size
theorem Ent.row_key (s : Ent) : rowOf s.arr 0 9 = some (s.key.arr) := by rw [Ent.arr_def]; simp [rowOf_cat_left, rowOf_cat_right, rowOf_here, cat_size, cel_size, Key.arr_size, Vl.arr_size]
theorem Ent.put_key (s : Ent) (x : Key) : splice s.arr 0 (x.arr) = ({ s with key := x } : Ent).arr := by rw [Ent.arr_def, Ent.arr_def]; simp [splice_cat_left, splice_cat_right, splice_all, cat_size, cel_size, Key.arr_size, Vl.arr_size]
theorem Ent.row_val (s : Ent) : rowOf s.arr 9 17 = some (s.val.arr) := by rw [Ent.arr_def]; simp [rowOf_cat_left, rowOf_cat_right, rowOf_here, cat_size, cel_size, Key.arr_size, Vl.arr_size]
theorem Ent.put_val (s : Ent) (x : Vl) : splice s.arr 9 (x.arr) = ({ s with val := x } : Ent).arr := by rw [Ent.arr_def, Ent.arr_def]; simp [splice_cat_left, splice_cat_right, splice_all, cat_size, cel_size, Key.arr_size, Vl.arr_size]
def Ent.zero : Ent := { key := Key.zero, val := Vl.zero }
theorem Ent.zero_key : Ent.zero.key = Key.zero := rfl
theorem Ent.zero_val : Ent.zero.val = Vl.zero := rfl
theorem Ent.zero_arr : Ent.zero.arr = #[.int .i64 0, .int .u8 0, .int .u8 0, .int .u8 0, .int .u8 0, .int .u8 0, .int .u8 0, .int .u8 0, .int .u8 0, .int .i64 0, .int .u8 0, .int .u8 0, .int .u8 0, .int .u8 0, .int .u8 0, .int .u8 0, .int .u8 0, .int .u8 0, .int .u8 0, .int .u8 0, .int .u8 0, .int .u8 0, .int .u8 0, .int .u8 0, .int .u8 0, .int .u8 0] := by rw [Ent.arr_def]; simp [cat_def, cel_def, Ent.zero, bArr_zero, D64_zero, Key.zero_arr, Vl.zero_arr]
theorem Ent.info : (Try.prog.info? 75).map (fun i => (i.zero, i.size)) = some (some (.agg Ent.zero.arr), 26) := by rw [Ent.zero_arr]; kernel_rfl
theorem Ent.size' : (Try.prog.info? 75).map (·.size) = some 26 := by kernel_rfl
theorem Ent.ld (v : Value) : Instr.loadAt 75 v = ldRow 75 v := ldRow_eq _ _
theorem Ent.st (a v : Value) : Instr.storeAt 75 a v = stRow 75 a v := stRow_eq _ _ _
theorem Ent.al (h : Bool) (v : Value) : Instr.alloc 75 h v = alRow 75 h v := alRow_eq _ _ _
theorem Ent.bd (ps : Array (Nat × Value)) : Instr.build 75 ps = bdRow 75 ps := bdRow_eq _ _
theorem Ent.load (b off : Nat) (w : World) : (ldRow 75 (.pointer (some ⟨b, off, none⟩))).run Try.prog w = onRow (row? w b off 26) w ((ldRow' 75 (.pointer (some ⟨b, off, none⟩))).run Try.prog w) :=
  run_ldRow Try.underlying75 rfl Ent.size' b off w
theorem Ent.store (b off : Nat) (s : Ent) (w : World) : (stRow 75 (.pointer (some ⟨b, off, none⟩)) (.agg s.arr)).run Try.prog w = onPut ((row? w b off 26).isSome && free? w b) (.ok () (putRow w b off s.arr)) ((stRow' 75 (.pointer (some ⟨b, off, none⟩)) (.agg s.arr)).run Try.prog w) :=
  run_stRow Ent.size' b off _ w s.arr_size s.arr_one
theorem Ent.alloc (w : World) (v : Value) : (alRow 75 true v).run Try.prog w = .ok (.pointer (some ⟨w.heap.size, 0, none⟩)) (w.alloc (.cells Ent.zero.arr 75)) :=
  run_alRow (z := .agg Ent.zero.arr) (zero_of_info Ent.info) w v
theorem Ent.fields : (Try.prog.fieldsOf 75).toList.map (fun f => (f.name == "_", f.type, f.offset)) = [(false, 27, 0), (false, 34, 9)] := by kernel_rfl
theorem Ent.under : Try.prog.underlying 75 = some (.struct (Try.prog.fieldsOf 75)) := by kernel_rfl
theorem Ent.eq_ (d : Nat) (a b : Ent) (w : World) : (Op.equalIn (d + 4) 75 (.agg a.arr) (.agg b.arr)).run Try.prog w = .ok (a.beq b) w := by
  have h := run_eq_struct Ent.under (by kernel_rfl) Ent.fields (EqFs.cons (EqF.agg Try.underlying27 rfl (by kernel_rfl) (Ent.row_key a) (Ent.row_key b) (Key.eq_ d _ _)) (EqFs.cons (EqF.agg Try.underlying34 rfl (by kernel_rfl) (Ent.row_val a) (Ent.row_val b) (Vl.eq_ d _ _)) EqFs.nil)) w
  exact h.trans (by simp [Ent.beq, Bool.and_assoc])
theorem Ent.eqG : Try.prog.eqGuardType Try.prog.depth 75 = false := by kernel_rfl
theorem Ent.eql (a b : Ent) (w : World) : (binOp .eql 75 (.agg a.arr) (.agg b.arr)).run Try.prog w = .ok (.bool (decide (a = b))) w := by
  rw [run_eql_struct]; rw [show (10000 : Nat) = 9996 + 4 from rfl, Ent.eq_, Ent.beq_dec]; rfl
theorem Ent.neq (a b : Ent) (w : World) : (binOp .neq 75 (.agg a.arr) (.agg b.arr)).run Try.prog w = .ok (.bool (!decide (a = b))) w := by
  rw [run_neq_struct]; rw [show (10000 : Nat) = 9996 + 4 from rfl, Ent.eq_, Ent.beq_dec]; rfl
def Ent.place : Nat → Option (Nat × Nat)
  | 0 => some (0, 9)
  | 1 => some (9, 17)
  | _ => none
theorem Ent.places : (Try.prog.fieldsOf 75).toList.mapM (fun f => (Try.prog.info? f.type).map fun i => (f.offset, i.size)) = some [(0, 9), (9, 17)] := by kernel_rfl
theorem Ent.build (ps : List (Nat × Value)) (w : World) : (bdRow 75 ps.toArray).run Try.prog w = onRow (fillS Ent.place Ent.zero.arr ps) w ((bdRow' 75 ps.toArray).run Try.prog w) :=
  run_bdRow Ent.under (zero_of_info Ent.info) Ent.places (fun i => by match i with | 0 => rfl | 1 => rfl | n + 2 => rfl) ps w
theorem Ent.place0 : Ent.place 0 = some (0, 9) := rfl
theorem Ent.place1 : Ent.place 1 = some (9, 17) := rfl
attribute [go_sem ↓] Ent.ld Ent.st Ent.al Ent.bd Ent.eql Ent.neq
attribute [go_sem] Ent.arr_size Ent.arr_one Ent.row Ent.put Ent.row_key Ent.put_key Ent.row_val Ent.put_val Ent.zero_key Ent.zero_val Ent.place0 Ent.place1 Ent.load Ent.store Ent.alloc Ent.build Ent.eqG
theorem Ent.enc : EncOk Ent.arr 26 := ⟨Ent.arr_size, Ent.arr_one, by omega⟩

end Go.Proofs.Ytigbkhjcboecjaa
