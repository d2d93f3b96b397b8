/-
  Base: numbers of 8, 32 and 64 bits behind closed words; rows of cells read and written whole; slices that read as lists; what a call leaves. Of no one program.
-/
import Derived.WalkKit
import Derived.LoopTactic
import Derived.Outline
import Derived.WalkSpells
import Derived.BigQuiet
import Derived.Deep.QuietTactic
import Derived.Deep.RegionHeld3
import Derived.Deep.DrawnRows
import Derived.Lib.Hide
import Derived.StillTailTactics
import Derived.Laws.CopyRow
namespace Go.Proofs.Ytigbkhjcboecjaa
open Go Go.RowKit
set_option linter.unusedVariables false
set_option linter.unusedSimpArgs false

/-! ### numbers behind closed words -/
@[irreducible] def B8 (x : BitVec 8) : Int := x.toNat
@[irreducible] def W32 (x : BitVec 32) : Int := x.toNat
@[irreducible] def D64 (x : BitVec 64) : Int := x.toNat
theorem B8_def (x : BitVec 8) : B8 x = x.toNat := by unfold B8; rfl
theorem W32_def (x : BitVec 32) : W32 x = x.toNat := by unfold W32; rfl
theorem D64_def (x : BitVec 64) : D64 x = x.toNat := by unfold D64; rfl
theorem B8_nonneg (x : BitVec 8) : 0 ≤ B8 x := by rw [B8_def]; omega
theorem B8_lt (x : BitVec 8) : B8 x < 256 := by rw [B8_def]; have := x.isLt; omega
theorem W32_nonneg (x : BitVec 32) : 0 ≤ W32 x := by rw [W32_def]; omega
theorem W32_lt (x : BitVec 32) : W32 x < 4294967296 := by rw [W32_def]; have := x.isLt; omega
theorem D64_nonneg (x : BitVec 64) : 0 ≤ D64 x := by rw [D64_def]; omega
/-- a byte as a place -/
@[irreducible] def bn (x : BitVec 8) : Nat := x.toNat
theorem bn_def (x : BitVec 8) : bn x = x.toNat := by unfold bn; rfl
theorem B8_bn (x : BitVec 8) : B8 x = (bn x : Int) := by rw [B8_def, bn_def]
theorem bn_lt (x : BitVec 8) : bn x < 256 := by rw [bn_def]; exact x.isLt
theorem i64_B8 (x : BitVec 8) : IntKind.i64.wrap (B8 x) = (bn x : Int) := by
  rw [B8_bn, IntKind.wrap_i64]; have := bn_lt x; omega
theorem B8_toNat (x : BitVec 8) : (B8 x).toNat = bn x := by rw [B8_def, bn_def]; omega
theorem B8_inj {a b : BitVec 8} : B8 a = B8 b ↔ a = b := by
  rw [B8_def, B8_def]; exact ⟨fun h => BitVec.eq_of_toNat_eq (by omega), fun h => by rw [h]⟩
theorem W32_inj {a b : BitVec 32} : W32 a = W32 b ↔ a = b := by
  rw [W32_def, W32_def]; exact ⟨fun h => BitVec.eq_of_toNat_eq (by omega), fun h => by rw [h]⟩
theorem D64_inj {a b : BitVec 64} : D64 a = D64 b ↔ a = b := by
  rw [D64_def, D64_def]; exact ⟨fun h => BitVec.eq_of_toNat_eq (by omega), fun h => by rw [h]⟩
theorem B8_beq (a b : BitVec 8) : (B8 a == B8 b) = decide (a = b) := by rw [Bool.eq_iff_iff]; simp [B8_inj]
theorem W32_beq (a b : BitVec 32) : (W32 a == W32 b) = decide (a = b) := by rw [Bool.eq_iff_iff]; simp [W32_inj]
theorem D64_beq (a b : BitVec 64) : (D64 a == D64 b) = decide (a = b) := by rw [Bool.eq_iff_iff]; simp [D64_inj]
theorem B8_ltB (a b : BitVec 8) : (B8 a < B8 b) = (a.toNat < b.toNat) := by simp [B8_def]
theorem B8_ofInt (n : Int) (h0 : 0 ≤ n) (h1 : n < 256) : B8 (BitVec.ofInt 8 n) = n := by
  rw [B8_def, BitVec.toNat_ofInt]; omega
theorem W32_ofInt (n : Int) (h0 : 0 ≤ n) (h1 : n < 4294967296) : W32 (BitVec.ofInt 32 n) = n := by
  rw [W32_def, BitVec.toNat_ofInt]; omega
theorem D64_ofInt (n : Int) (h0 : 0 ≤ n) (h1 : n < 18446744073709551616) : D64 (BitVec.ofInt 64 n) = n := by
  rw [D64_def, BitVec.toNat_ofInt]; omega

theorem B8_wrap (x : BitVec 8) : IntKind.u8.wrap (B8 x) = B8 x := by
  rw [IntKind.wrap_u8']; have := B8_nonneg x; have := B8_lt x; omega
theorem W32_of_B8 (b : BitVec 8) : IntKind.u32.wrap (B8 b) = W32 (b.setWidth 32) := by
  rw [IntKind.wrap_u32', W32_def, B8_def, BitVec.toNat_setWidth]; have := b.isLt; omega
theorem B8_of_W32 (x : BitVec 32) : IntKind.u8.wrap (W32 x) = B8 (x.setWidth 8) := by
  rw [IntKind.wrap_u8', W32_def, B8_def, BitVec.toNat_setWidth]; omega

theorem W32_xor (a b : BitVec 32) : bits .xor .u32 (W32 a) (W32 b) = W32 (a ^^^ b) := by
  simp only [W32_def]
  rw [u32_xor_nat _ _ a.isLt b.isLt, BitVec.toNat_xor]
theorem B8_xor (a b : BitVec 8) : bits .xor .u8 (B8 a) (B8 b) = B8 (a ^^^ b) := by
  simp only [B8_def]
  rw [u8_xor_nat _ _ a.isLt b.isLt, BitVec.toNat_xor]
theorem W32_shr (y : BitVec 32) (n : Nat) : W32 y / (2 ^ n : Nat) = W32 (y >>> n) := by
  rw [W32_def, W32_def, BitVec.toNat_ushiftRight, Nat.shiftRight_eq_div_pow]; omega
theorem W32_not (x : BitVec 32) : bits .xor .u32 IntKind.u32.max (W32 x) = W32 (~~~ x) := by
  have h : bits .xor .u32 4294967295 (W32 x) = W32 (~~~ x) := by
    rw [W32_def, W32_def]
    have h := u32_xor_nat 4294967295 x.toNat (by omega) x.isLt
    rw [BitVec.toNat_not]
    have h2 : (4294967295 : Nat) ^^^ x.toNat = 4294967295 - x.toNat := by
      have := BitVec.toNat_xor (BitVec.allOnes 32) x
      rw [BitVec.allOnes_xor, BitVec.toNat_not] at this
      simpa using this.symm
    rw [h2] at h
    simpa using h
  exact h
theorem u32_unsigned : IntKind.u32.signed = false := rfl
theorem u64_unsigned : IntKind.u64.signed = false := rfl
theorem u8_unsigned : IntKind.u8.signed = false := rfl

attribute [go_sem] i64_B8 B8_nonneg B8_lt B8_toNat B8_beq W32_beq D64_beq B8_wrap W32_of_B8 B8_of_W32 W32_xor B8_xor
attribute [go_sem] W32_not u32_unsigned u64_unsigned u8_unsigned

/-! ### rows of cells, read whole -/
/-- a part of a row of cells -/
def rowOf (cs : Array Value) (off n : Nat) : Option (Array Value) := if off + n ≤ cs.size then some (cs.extract off (off + n)) else none
def row? (w : World) (b off n : Nat) : Option (Array Value) :=
  match w.heap[b]? with
  | some (.cells cs _ _) => rowOf cs off n
  | _ => none
theorem rowOf_full (cs : Array Value) (n : Nat) (h : cs.size = n) : rowOf cs 0 n = some cs := by
  unfold rowOf; subst h; simp
theorem rowOf_spec {c cs : Array Value} {off n : Nat} (h : rowOf c off n = some cs) : cs.size = n ∧ off + n ≤ c.size ∧ ∀ j, j < n → c[off + j]? = cs[j]? := by
  unfold rowOf at h
  split at h
  · rename_i hle
    injection h with h; subst h
    refine ⟨by simp; omega, hle, fun j hj => ?_⟩
    rw [Array.getElem?_extract, if_pos (by omega)]
  · cases h
theorem rowOf_sub {c cs : Array Value} {off n o m : Nat} (h : rowOf c off n = some cs) (hm : o + m ≤ n) : rowOf c (off + o) m = rowOf cs o m := by
  obtain ⟨hs, hle, hc⟩ := rowOf_spec h
  unfold rowOf
  rw [if_pos (by omega), if_pos (by omega)]
  congr 1
  apply Array.ext_getElem?
  intro k
  simp only [Array.getElem?_extract]
  by_cases hk : k < m
  · rw [if_pos (by omega), if_pos (by omega), show off + o + k = off + (o + k) from by omega]
    exact hc _ (by omega)
  · rw [if_neg (by omega), if_neg (by omega)]
theorem row_block {w : World} {b off n : Nat} {c : Array Value} {t : TypeId} {fr : Nat × Nat} (h : w.heap[b]? = some (.cells c t fr)) : row? w b off n = rowOf c off n := by
  unfold row?; rw [h]
theorem row_lt {w : World} {b off n : Nat} {cs : Array Value} (h : row? w b off n = some cs) : b < w.heap.size := by
  unfold row? at h
  rcases Nat.lt_or_ge b w.heap.size with hlt | hge
  · exact hlt
  · rw [Array.getElem?_eq_none hge] at h; cases h
theorem row_cells {w : World} {b off n : Nat} {cs : Array Value} (h : row? w b off n = some cs) : cs.size = n ∧ ∀ j, j < n → w.cell? ⟨b, off + j, none⟩ = cs[j]? := by
  unfold row? at h
  split at h
  · rename_i c t fr hb
    obtain ⟨h1, _, h3⟩ := rowOf_spec h
    exact ⟨h1, fun j hj => by simp only [World.cell?, hb, Option.isSome_none, Bool.false_eq_true, if_false]; exact h3 j hj⟩
  · cases h
theorem row_cell {w : World} {b off n : Nat} {cs : Array Value} (h : row? w b off n = some cs) {j : Nat} (hj : j < n) {v : Value} (hv : cs[j]? = some v) : w.cell? ⟨b, off + j, none⟩ = some v :=
  ((row_cells h).2 j hj).trans hv
theorem row_cell0 {w : World} {b off n : Nat} {cs : Array Value} (h : row? w b off n = some cs) (hj : 0 < n) {v : Value} (hv : cs[0]? = some v) : w.cell? ⟨b, off, none⟩ = some v :=
  row_cell h hj hv
theorem row_sub {w : World} {b off n : Nat} {cs : Array Value} (h : row? w b off n = some cs) (o m : Nat) (hm : o + m ≤ n) : row? w b (off + o) m = rowOf cs o m := by
  unfold row? at h
  split at h
  · rename_i c t fr hb
    rw [row_block hb]
    exact rowOf_sub h hm
  · cases h

/- a load, a store, a new variable, a composite of a struct's or an array's type: closed words, so that the walk does not lay them open -/
@[irreducible] def ldRow (t : TypeId) (v : Value) : Sem Value := Instr.loadAt t v
@[irreducible] def ldRow' (t : TypeId) (v : Value) : Sem Value := Instr.loadAt t v
theorem ldRow_eq (t : TypeId) (v : Value) : Instr.loadAt t v = ldRow t v := by unfold ldRow; rfl
@[irreducible] def stRow (t : TypeId) (a v : Value) : Sem Unit := Instr.storeAt t a v
@[irreducible] def stRow' (t : TypeId) (a v : Value) : Sem Unit := Instr.storeAt t a v
theorem stRow_eq (t : TypeId) (a v : Value) : Instr.storeAt t a v = stRow t a v := by unfold stRow; rfl
@[irreducible] def alRow (t : TypeId) (h : Bool) (o : Value) : Sem Value := Instr.alloc t h o
theorem alRow_eq (t : TypeId) (h : Bool) (o : Value) : Instr.alloc t h o = alRow t h o := by unfold alRow; rfl
@[irreducible] def bdRow (t : TypeId) (ps : Array (Nat × Value)) : Sem Value := Instr.build t ps
theorem bdRow_eq (t : TypeId) (ps : Array (Nat × Value)) : Instr.build t ps = bdRow t ps := by unfold bdRow; rfl
@[irreducible] def bsRow (t : TypeId) (n : Nat) (ps : Array (Nat × Value)) : Sem Value := Instr.buildSlice t n ps
theorem bsRow_eq (t : TypeId) (n : Nat) (ps : Array (Nat × Value)) : Instr.buildSlice t n ps = bsRow t n ps := by unfold bsRow; rfl
@[irreducible] def onRow (o : Option (Array Value)) (w : World) (r : Result Value) : Result Value := match o with | some cs => .ok (.agg cs) w | none => r
theorem onRow_some (cs : Array Value) (w : World) (r : Result Value) : onRow (some cs) w r = .ok (.agg cs) w := by unfold onRow; rfl
theorem run_loadCells_row {P : Program} {w : World} {b off n : Nat} {cs : Array Value} (h : row? w b off n = some cs) : (loadCells ⟨b, off, none⟩ n).run P w = .ok cs w := by
  obtain ⟨hs, hc⟩ := row_cells h
  have hl : (loadCells ⟨b, off, none⟩ cs.toList.length).run P w = .ok cs.toList.toArray w :=
    run_loadCells_list (P := P) w ⟨b, off, none⟩ cs.toList (fun j v hv => by
      have hadd : (⟨b, off, none⟩ : Addr).add j = ⟨b, off + j, none⟩ := by unfold Addr.add; split <;> simp_all
      have hj : j < n := by
        have := (List.getElem?_eq_some_iff.1 hv).1
        simp at this; omega
      rw [hadd, hc j hj]
      simpa using hv)
  simpa [hs] using hl
theorem run_loadVar_at {P : Program} {t : TypeId} {n : Nat} {d : TypeDesc} (hu : P.underlying t = some d) (hd : (match d with | .struct _ | .array _ _ => true | _ => false) = true) (hi : (P.info? t).map (·.size) = some n)
    {b off : Nat} {w : World} {cs : Array Value} (h : row? w b off n = some cs) : (loadVar t ⟨b, off, none⟩).run P w = .ok (.agg cs) w := by
  have hl := run_loadCells_row (P := P) h
  cases hq : P.info? t with
  | none => rw [hq] at hi; cases hi
  | some i =>
    have hs' : i.size = n := by simpa [hq] using hi
    have hagg : (isAgg t).run P w = .ok true w := by
      unfold isAgg
      rw [Sem.run_bind, run_underlying hu w]
      cases d <;> simp_all
    simp [loadVar, Sem.run_bind, hagg, sizeOf, typeInfo, hq, hs', hl]
theorem run_ldRow {P : Program} {t : TypeId} {n : Nat} {d : TypeDesc} (hu : P.underlying t = some d) (hd : (match d with | .struct _ | .array _ _ => true | _ => false) = true) (hi : (P.info? t).map (·.size) = some n)
    (b off : Nat) (w : World) : (ldRow t (.pointer (some ⟨b, off, none⟩))).run P w = onRow (row? w b off n) w ((ldRow' t (.pointer (some ⟨b, off, none⟩))).run P w) := by
  unfold onRow ldRow
  split
  · rename_i cs h
    simp [Instr.loadAt, Instr.sureAddr, run_loadVar_at hu hd hi h]
  · unfold ldRow'; rfl
theorem run_alRow {P : Program} {t : TypeId} {z : Value} (hz : (P.info? t).bind (·.zero) = some z) (w : World) (o : Value) :
    (alRow t true o).run P w = .ok (.pointer (some ⟨w.heap.size, 0, none⟩)) (w.alloc (.cells z.cells t)) := by
  unfold alRow
  cases hq : P.info? t with
  | none => rw [hq] at hz; cases hz
  | some i =>
    have hz' : i.zero = some z := by simpa [hq] using hz
    simp [Instr.alloc, zeroValue, typeInfo, hq, hz', newVar, newRow, go_sem]

/-! ### rows of cells, written whole -/
def splice (c : Array Value) (off : Nat) (cs : Array Value) : Array Value := (c.toList.take off ++ cs.toList ++ c.toList.drop (off + cs.size)).toArray
def putRow (w : World) (b off : Nat) (cs : Array Value) : World :=
  { w with heap := w.heap.modify b fun
      | .cells c t fr => .cells (splice c off cs) t fr
      | o => o }
def free? (w : World) (b : Nat) : Bool := match w.heap[b]? with | some (.cells _ _ fr) => decide (fr = (0, 0)) | _ => false
def oneCells (cs : Array Value) : Bool := cs.all fun v => v.oneCell'
theorem splice_full (c cs : Array Value) (h : cs.size = c.size) : splice c 0 cs = cs := by
  unfold splice
  have : c.toList.drop (0 + cs.size) = [] := List.drop_eq_nil_of_le (by simp; omega)
  rw [this]; simp
theorem splice_size (c cs : Array Value) (off : Nat) (h : off + cs.size ≤ c.size) : (splice c off cs).size = c.size := by
  unfold splice; simp; omega
theorem splice_get {c cs : Array Value} {off : Nat} (h : off + cs.size ≤ c.size) (k : Nat) : (splice c off cs)[k]? = if off ≤ k ∧ k < off + cs.size then cs[k - off]? else c[k]? := by
  unfold splice
  simp only [List.getElem?_toArray, List.getElem?_append, List.length_append, List.length_take, Array.length_toList, List.getElem?_take, List.getElem?_drop, Array.getElem?_toList]
  by_cases h1 : k < off
  · rw [if_pos (by omega), if_pos (by omega), if_pos (by omega), if_neg (by omega)]
  · by_cases h2 : k < off + cs.size
    · rw [if_pos (by omega), if_neg (by omega), if_pos (by omega)]; congr 1; omega
    · rw [if_neg (by omega), if_neg (by omega)]; congr 1; omega
theorem storeCells_splice (P : Program) (b : Nat) (t : TypeId) : ∀ (vs : List Value) (off i : Nat) (c : Array Value) (w : World), w.heap[b]? = some (.cells c t (0, 0)) → off + i + vs.length ≤ c.size → (∀ v ∈ vs, v.oneCell' = true) →
    (storeCells ⟨b, off, none⟩ vs i).run P w = .ok () (putRow w b (off + i) vs.toArray) := by
  intro vs off i c w hb hs h1
  have hst := run_storeCells_at (P := P) b off t vs i c w hb hs h1
  have e : putRow w b (off + i) vs.toArray = w.setRow b (c.toList.take (off + i) ++ vs ++ c.toList.drop (off + i + vs.length)).toArray := by
    unfold putRow World.setRow
    congr 1
    apply Array.ext_getElem?
    intro k
    simp only [Array.getElem?_modify]
    by_cases hk : b = k
    · subst hk
      simp only [hb, if_true, Option.map_some]
      rfl
    · simp [hk]
  rw [e]
  exact hst

theorem splice_rowOf {c cs : Array Value} {off n : Nat} (h : off + cs.size ≤ c.size) (hn : cs.size = n) : rowOf (splice c off cs) off n = some cs := by
  unfold rowOf
  rw [if_pos (by rw [splice_size c cs off h]; omega)]
  congr 1
  apply Array.ext_getElem?
  intro k
  rw [Array.getElem?_extract]
  by_cases hk : k < n
  · rw [if_pos (by rw [splice_size c cs off h]; omega), splice_get h, if_pos (by omega)]; congr 1; omega
  · rw [if_neg (by omega), Array.getElem?_eq_none (by omega)]
theorem splice_rowOf_apart {c cs : Array Value} {off o n : Nat} (h : off + cs.size ≤ c.size) (ha : o + n ≤ off ∨ off + cs.size ≤ o) : rowOf (splice c off cs) o n = rowOf c o n := by
  unfold rowOf
  rw [splice_size c cs off h]
  split
  · congr 1
    apply Array.ext_getElem?
    intro k
    rw [Array.getElem?_extract, Array.getElem?_extract, splice_size c cs off h]
    split
    · rw [splice_get h, if_neg (by omega)]
    · rfl
  · rfl

theorem heap_old (w : World) (o : Obj) (i : Nat) (h : i < w.heap.size) : (w.alloc o).heap[i]? = w.heap[i]? := by
  show (w.heap.push o)[i]? = w.heap[i]?
  rw [Array.getElem?_push, if_neg (Nat.ne_of_lt h)]
theorem putRow_heap_same {w : World} {b off : Nat} {cs c : Array Value} {t : TypeId} {fr : Nat × Nat} (h : w.heap[b]? = some (.cells c t fr)) : (putRow w b off cs).heap[b]? = some (.cells (splice c off cs) t fr) := by
  unfold putRow
  simp [Array.getElem?_modify, h]
theorem putRow_heap_other {w : World} {b off k : Nat} {cs : Array Value} (h : k ≠ b) : (putRow w b off cs).heap[k]? = w.heap[k]? := by
  unfold putRow
  simp [Array.getElem?_modify, Ne.symm h]
theorem putRow_size (w : World) (b off : Nat) (cs : Array Value) : (putRow w b off cs).heap.size = w.heap.size := by simp [putRow]
theorem row_putRow_other {w : World} {b off k o n : Nat} {cs : Array Value} (h : k ≠ b) : row? (putRow w b off cs) k o n = row? w k o n := by
  unfold row?; rw [putRow_heap_other h]
theorem cell_putRow_other {w : World} {b off k o : Nat} {cs : Array Value} (h : k ≠ b) : (putRow w b off cs).cell? ⟨k, o, none⟩ = w.cell? ⟨k, o, none⟩ := by
  unfold World.cell?; rw [putRow_heap_other h]
theorem frozen_putRow {w : World} {b off k o : Nat} {cs : Array Value} : (putRow w b off cs).frozen? ⟨k, o, none⟩ = w.frozen? ⟨k, o, none⟩ := by
  unfold World.frozen?
  by_cases hk : k = b
  · subst hk
    simp only [putRow, Array.getElem?_modify, if_true]
    cases h : w.heap[k]? with
    | none => simp
    | some o => cases o <;> simp
  · rw [putRow_heap_other hk]
theorem free_putRow {w : World} {b off k : Nat} {cs : Array Value} : free? (putRow w b off cs) k = free? w k := by
  unfold free?
  by_cases hk : k = b
  · subst hk
    simp only [putRow, Array.getElem?_modify, if_true]
    cases h : w.heap[k]? with
    | none => simp
    | some o => cases o <;> simp
  · rw [putRow_heap_other hk]
theorem row_alloc_at (w : World) (cs : Array Value) (t : TypeId) (fr : Nat × Nat) (b off n : Nat) (hb : b = w.heap.size) : row? (w.alloc (.cells cs t fr)) b off n = rowOf cs off n := by
  subst hb; exact row_block (heap_alloc_new w _)
theorem row_alloc_past (w : World) (o : Obj) (b off n : Nat) (h : b < w.heap.size) : row? (w.alloc o) b off n = row? w b off n := by
  unfold row?; rw [heap_old w o b h]
theorem row_drew (w : World) (b off n : Nat) : row? w.drew b off n = row? w b off n := rfl
theorem row_drewN (w : World) (k b off n : Nat) : row? (w.drewN k) b off n = row? w b off n := rfl
theorem free_alloc_at (w : World) (cs : Array Value) (t : TypeId) (b : Nat) (hb : b = w.heap.size) : free? (w.alloc (.cells cs t)) b = true := by
  subst hb; unfold free?; rw [heap_alloc_new]; rfl
theorem free_alloc_past (w : World) (o : Obj) (b : Nat) (h : b < w.heap.size) : free? (w.alloc o) b = free? w b := by
  unfold free?; rw [heap_old w o b h]
theorem free_drew (w : World) (b : Nat) : free? w.drew b = free? w b := rfl
theorem free_drewN (w : World) (k b : Nat) : free? (w.drewN k) b = free? w b := rfl
theorem putRow_drew (w : World) (b off : Nat) (cs : Array Value) : putRow w.drew b off cs = (putRow w b off cs).drew := rfl
theorem putRow_drewN (w : World) (k b off : Nat) (cs : Array Value) : putRow (w.drewN k) b off cs = (putRow w b off cs).drewN k := rfl
theorem putRow_alloc_at (w : World) (c : Array Value) (t : TypeId) (fr : Nat × Nat) (b off : Nat) (cs : Array Value) (hb : b = w.heap.size) : putRow (w.alloc (.cells c t fr)) b off cs = w.alloc (.cells (splice c off cs) t fr) := by
  subst hb
  unfold putRow World.alloc
  congr 1
  apply Array.ext_getElem?
  intro k
  simp only [Array.getElem?_modify, Array.getElem?_push]
  by_cases hk : k = w.heap.size
  · subst hk; simp
  · simp [hk, Ne.symm hk]
theorem putRow_alloc_past (w : World) (o : Obj) (b off : Nat) (cs : Array Value) (h : b < w.heap.size) : putRow (w.alloc o) b off cs = (putRow w b off cs).alloc o := by
  unfold putRow World.alloc
  congr 1
  apply Array.ext_getElem?
  intro k
  simp only [Array.getElem?_modify, Array.getElem?_push, Array.size_modify]
  by_cases hk : k = w.heap.size
  · subst hk; simp [Nat.ne_of_lt h]
  · simp [hk]

/-- what a store of a whole row leaves, where the row is there and free -/
@[irreducible] def onPut (c : Bool) (r : Result Unit) (w0 : Result Unit) : Result Unit := if c then r else w0
theorem onPut_true (r w0 : Result Unit) : onPut true r w0 = r := by unfold onPut; rfl
theorem run_stRow {P : Program} {t : TypeId} {n : Nat} (hi : (P.info? t).map (·.size) = some n)
    (b off : Nat) (cs : Array Value) (w : World) (hs : cs.size = n) (h1 : oneCells cs = true) :
    (stRow t (.pointer (some ⟨b, off, none⟩)) (.agg cs)).run P w = onPut ((row? w b off n).isSome && free? w b) (.ok () (putRow w b off cs)) ((stRow' t (.pointer (some ⟨b, off, none⟩)) (.agg cs)).run P w) := by
  unfold onPut stRow
  split
  · rename_i h
    simp only [Bool.and_eq_true] at h
    obtain ⟨hr, hf⟩ := h
    unfold free? at hf
    split at hf
    · rename_i c t' fr hb
      obtain rfl : fr = (0, 0) := by simpa using hf
      rw [row_block hb] at hr
      have hle : off + n ≤ c.size := by
        unfold rowOf at hr
        split at hr
        · assumption
        · cases hr
      have hst := storeCells_splice P b t' cs.toList off 0 c w hb (by simp; omega) (fun v hv => by
        unfold oneCells at h1
        rw [← Array.all_toList] at h1
        exact List.all_eq_true.1 h1 v hv)
      cases hq : P.info? t with
      | none => rw [hq] at hi; cases hi
      | some i =>
        have hs' : i.size = n := by simpa [hq] using hi
        simp only [Nat.add_zero, Array.toArray_toList] at hst
        simp [Instr.storeAt, Instr.sureAddr, storeVar, Value.cells, sizeOf, typeInfo, hq, hs, hs', hst]
    · cases hf
  · unfold stRow'; rfl

attribute [go_sem] onRow_some onPut_true row_alloc_at row_alloc_past row_drew row_drewN free_alloc_at free_alloc_past free_drew free_drewN putRow_drew putRow_drewN putRow_alloc_at putRow_alloc_past

/-! ### cuts of a slice -/
/-- where a cut from place k on begins (nothing is moved where no room is left) -/
@[irreducible] def cutA (cap k n : Nat) (A : Option Addr) : Option Addr := if cap = k then A else A.map (·.add (k * n))
theorem cutA_def (cap k n : Nat) (A : Option Addr) : cutA cap k n A = if cap = k then A else A.map (·.add (k * n)) := by unfold cutA; rfl
theorem cutA_zero (cap n : Nat) (A : Option Addr) : cutA cap 0 n A = A := by
  rw [cutA_def]; split
  · rfl
  · cases A <;> simp [Addr.add]
@[irreducible] def slRow (t : TypeId) (x : Value) (lo hi mx : Option Value) : Sem Value := Instr.sliceAt t x lo hi mx
theorem slRow_eq (t : TypeId) (x : Value) (lo hi mx : Option Value) : Instr.sliceAt t x lo hi mx = slRow t x lo hi mx := by unfold slRow; rfl
section
variable {P : Program} {t e : TypeId} {n : Nat} (hu : P.underlying t = some (.slice e)) (hn : (P.info? e).map (·.size) = some n)
include hn in
omit hu in
theorem run_sizeOf_some (w : World) : (sizeOf e).run P w = .ok n w := by
  cases hq : P.info? e with
  | none => rw [hq] at hn; cases hn
  | some i =>
    have : i.size = n := by simpa [hq] using hn
    simp [sizeOf, typeInfo, hq, this]
include hu hn
theorem run_sl_hi (A : Option Addr) (len cap : Nat) (k : Int) (h0 : 0 ≤ k) (h1 : k ≤ cap) (w : World) :
    (slRow t (.slice A len cap) none (some (.int .i64 k)) none).run P w = .ok (.slice A k.toNat cap) w := by
  unfold slRow
  have hs := run_sizeOf_some hn w
  have ha : (if cap = 0 then A else A.map fun x => x.add (0 * n)) = A := by
    split
    · rfl
    · cases A <;> simp [Addr.add]
  simp [Instr.sliceAt, Instr.slice, Instr.sliceBounds, Instr.sliceBound, asIntOf, run_underlying hu, hs, h0, h1]
  cases A <;> simp [Addr.add]
theorem run_sl_lo (A : Option Addr) (len cap : Nat) (k : Int) (h0 : 0 ≤ k) (h1 : k ≤ len) (w : World) :
    (slRow t (.slice A len cap) (some (.int .i64 k)) none none).run P w = .ok (.slice (cutA cap k.toNat n A) (len - k.toNat) (cap - k.toNat)) w := by
  unfold slRow
  have hs := run_sizeOf_some hn w
  simp [Instr.sliceAt, Instr.slice, Instr.sliceBounds, Instr.sliceBound, asIntOf, run_underlying hu, hs, h0, h1, cutA_def]
theorem run_sl_lohi (A : Option Addr) (len cap : Nat) (i j : Int) (h0 : 0 ≤ i) (h1 : i ≤ j) (h2 : j ≤ cap) (w : World) :
    (slRow t (.slice A len cap) (some (.int .i64 i)) (some (.int .i64 j)) none).run P w = .ok (.slice (cutA cap i.toNat n A) (j.toNat - i.toNat) (cap - i.toNat)) w := by
  unfold slRow
  have hs := run_sizeOf_some hn w
  have h3 : 0 ≤ j := by omega
  have h4 : max j 0 = j := by omega
  simp [Instr.sliceAt, Instr.slice, Instr.sliceBounds, Instr.sliceBound, asIntOf, run_underlying hu, hs, h0, h1, h2, h3, h4, cutA_def]
theorem run_sl_3 (A : Option Addr) (len cap : Nat) (i j m : Int) (h0 : 0 ≤ i) (h1 : i ≤ j) (h2 : j ≤ m) (h5 : m ≤ cap) (w : World) :
    (slRow t (.slice A len cap) (some (.int .i64 i)) (some (.int .i64 j)) (some (.int .i64 m))).run P w = .ok (.slice (cutA m.toNat i.toNat n A) (j.toNat - i.toNat) (m.toNat - i.toNat)) w := by
  unfold slRow
  have hs := run_sizeOf_some hn w
  have h3 : 0 ≤ j := by omega
  have h4 : max j 0 = j := by omega
  have h6 : 0 ≤ m := by omega
  have h7 : max m 0 = m := by omega
  simp [Instr.sliceAt, Instr.slice, Instr.sliceBounds, Instr.sliceBound, asIntOf, run_underlying hu, hs, h0, h1, h2, h3, h4, h5, h6, h7, cutA_def]
theorem run_sl_hi3 (A : Option Addr) (len cap : Nat) (j m : Int) (h1 : 0 ≤ j) (h2 : j ≤ m) (h5 : m ≤ cap) (w : World) :
    (slRow t (.slice A len cap) none (some (.int .i64 j)) (some (.int .i64 m))).run P w = .ok (.slice A j.toNat m.toNat) w := by
  unfold slRow
  have hs := run_sizeOf_some hn w
  have h6 : 0 ≤ m := by omega
  have h7 : max m 0 = m := by omega
  simp [Instr.sliceAt, Instr.slice, Instr.sliceBounds, Instr.sliceBound, asIntOf, run_underlying hu, hs, h1, h2, h5, h6, h7]
  cases A <;> simp [Addr.add]
theorem run_sl_all (A : Option Addr) (len cap : Nat) (w : World) :
    (slRow t (.slice A len cap) none none none).run P w = .ok (.slice A len cap) w := by
  unfold slRow
  have hs := run_sizeOf_some hn w
  simp [Instr.sliceAt, Instr.slice, Instr.sliceBounds, run_underlying hu, hs]
  cases A <;> simp [Addr.add]
end

/-! ### make -/
theorem run_make_sl {P : Program} {t e : TypeId} {z : Value} {size bytes : Nat} (ht : P.underlying t = some (.slice e)) (hi : (P.info? e).map (fun i => (i.zero, i.size, i.bytes)) = some (some z, size, bytes))
    (l c : Nat) (hlc : l ≤ c) (hb : bytes * c ≤ 281474976710656) (hc : c ≤ 9223372036854775807) (w : World) :
    (Instr.makeSlice t (.int .i64 (l : Int)) (.int .i64 (c : Int))).run P w = .ok (.slice (some ⟨w.heap.size, 0, none⟩) l c) (w.alloc (.cells (madeCells z.cells (c * size)) e)) := by
  obtain ⟨i, hi1, hz0, hz1, hz2⟩ := info_parts hi
  have hb' : (i.bytes : Int) * (c : Int) ≤ 281474976710656 := by
    have h : ((i.bytes * c : Nat) : Int) ≤ 281474976710656 := by rw [hz2]; omega
    rwa [Int.natCast_mul] at h
  have hr := run_make (P := P) w t e i z ht hi1 hz0 .i64 .i64 l c (by omega) (by omega) hb' (by omega)
  simp only [Int.toNat_natCast, hz1] at hr
  exact hr

/-! ### results -/
def resOf (tmps : Array Value) : ResultVar → Sem Value
  | .tmp t => pure (tmps.getD t undef)
  | .cell a t => do loadVar t (← asAddr (tmps.getD a undef))
theorem results_eq (fn : Func) (tmps : Array Value) : results fn tmps = (do
    let vs ← fn.results.mapM (resOf tmps)
    pure (if h : vs.size = 1 then vs[0] else .tuple vs)) := by
  unfold results
  congr 1
/-- what one result reads as when the call leaves -/
def Res (P : Program) (tmps : Array Value) (w : World) (r : ResultVar) (v : Value) : Prop := (resOf tmps r).run P w = .ok v w
theorem res_tmp {P : Program} {tmps : Array Value} {w : World} {t : Tmp} : Res P tmps w (.tmp t) (tmps.getD t undef) := by simp [Res, resOf]
theorem res_cell {P : Program} {tmps : Array Value} {w : World} {a : Tmp} {t : TypeId} {n : Nat} {d : TypeDesc} {g off : Nat} {cs : Array Value} (hu : P.underlying t = some d) (hd : (match d with | .struct _ | .array _ _ => true | _ => false) = true)
    (hi : (P.info? t).map (·.size) = some n) (ha : tmps.getD a undef = .pointer (some ⟨g, off, none⟩)) (h : row? w g off n = some cs) : Res P tmps w (.cell a t) (.agg cs) := by
  simp only [Res, resOf, ha]
  simp [asAddr, run_loadVar_at hu hd hi h]
theorem results_1 {P : Program} {fn : Func} {tmps : Array Value} {w : World} {r0 : ResultVar} {v0 : Value} (h : fn.results = #[r0]) (h0 : Res P tmps w r0 v0) :
    (results fn tmps).run P w = .ok (v0) w := by
  unfold Res at h0
  rw [results_eq]
  simp [h, h0]
theorem results_2 {P : Program} {fn : Func} {tmps : Array Value} {w : World} {r0 r1 : ResultVar} {v0 v1 : Value} (h : fn.results = #[r0, r1]) (h0 : Res P tmps w r0 v0) (h1 : Res P tmps w r1 v1) :
    (results fn tmps).run P w = .ok (.tuple #[v0, v1]) w := by
  unfold Res at h0 h1
  rw [results_eq]
  simp [h, h0, h1]
theorem results_3 {P : Program} {fn : Func} {tmps : Array Value} {w : World} {r0 r1 r2 : ResultVar} {v0 v1 v2 : Value} (h : fn.results = #[r0, r1, r2]) (h0 : Res P tmps w r0 v0) (h1 : Res P tmps w r1 v1) (h2 : Res P tmps w r2 v2) :
    (results fn tmps).run P w = .ok (.tuple #[v0, v1, v2]) w := by
  unfold Res at h0 h1 h2
  rw [results_eq]
  simp [h, h0, h1, h2]
theorem results_4 {P : Program} {fn : Func} {tmps : Array Value} {w : World} {r0 r1 r2 r3 : ResultVar} {v0 v1 v2 v3 : Value} (h : fn.results = #[r0, r1, r2, r3]) (h0 : Res P tmps w r0 v0) (h1 : Res P tmps w r1 v1) (h2 : Res P tmps w r2 v2) (h3 : Res P tmps w r3 v3) :
    (results fn tmps).run P w = .ok (.tuple #[v0, v1, v2, v3]) w := by
  unfold Res at h0 h1 h2 h3
  rw [results_eq]
  simp [h, h0, h1, h2, h3]
theorem results_5 {P : Program} {fn : Func} {tmps : Array Value} {w : World} {r0 r1 r2 r3 r4 : ResultVar} {v0 v1 v2 v3 v4 : Value} (h : fn.results = #[r0, r1, r2, r3, r4]) (h0 : Res P tmps w r0 v0) (h1 : Res P tmps w r1 v1) (h2 : Res P tmps w r2 v2) (h3 : Res P tmps w r3 v3) (h4 : Res P tmps w r4 v4) :
    (results fn tmps).run P w = .ok (.tuple #[v0, v1, v2, v3, v4]) w := by
  unfold Res at h0 h1 h2 h3 h4
  rw [results_eq]
  simp [h, h0, h1, h2, h3, h4]
theorem results_6 {P : Program} {fn : Func} {tmps : Array Value} {w : World} {r0 r1 r2 r3 r4 r5 : ResultVar} {v0 v1 v2 v3 v4 v5 : Value} (h : fn.results = #[r0, r1, r2, r3, r4, r5]) (h0 : Res P tmps w r0 v0) (h1 : Res P tmps w r1 v1) (h2 : Res P tmps w r2 v2) (h3 : Res P tmps w r3 v3) (h4 : Res P tmps w r4 v4) (h5 : Res P tmps w r5 v5) :
    (results fn tmps).run P w = .ok (.tuple #[v0, v1, v2, v3, v4, v5]) w := by
  unfold Res at h0 h1 h2 h3 h4 h5
  rw [results_eq]
  simp [h, h0, h1, h2, h3, h4, h5]

/-! ### what a call leaves -/
theorem below_drewN {B : Nat} {a w : World} (h : Below B a w) (n : Nat) : Below B a (w.drewN n) := ⟨h.os, h.tape, h.output, h.size, h.block⟩
/-- what was there when the call began is as it was -/
def Ext (w w' : World) : Prop := Below w.heap.size w w'
theorem Ext.refl (w : World) : Ext w w := Below.refl _ _
theorem Ext.trans {a b c : World} (h : Ext a b) (k : Ext b c) : Ext a c := Below.trans h (Below.mono k h.size)
theorem Ext.drew {a w : World} (h : Ext a w) : Ext a w.drew := Below.drew h
theorem Ext.drewN {a w : World} (h : Ext a w) (n : Nat) : Ext a (w.drewN n) := below_drewN h n
theorem Ext.alloc {a w : World} (h : Ext a w) (o : Obj) : Ext a (w.alloc o) := Below.alloc h h.size o
theorem Ext.setCell {a w : World} (h : Ext a w) {g i : Nat} (hg : a.heap.size ≤ g) (u : Value) : Ext a (w.setCell ⟨g, i, none⟩ u) := Below.setCell (p := ⟨g, i, none⟩) h hg u
theorem Ext.putRow {a w : World} (h : Ext a w) {g o : Nat} {cs : Array Value} (hg : a.heap.size ≤ g) : Ext a (putRow w g o cs) :=
  Below.trans h ⟨rfl, rfl, rfl, by rw [putRow_size]; exact Nat.le_refl _, fun k hk => putRow_heap_other (by omega)⟩
theorem Ext.le {a w : World} (h : Ext a w) : a.heap.size ≤ w.heap.size := h.size
theorem Ext.row {a w : World} (h : Ext a w) {b off n : Nat} {cs : Array Value} (hr : row? a b off n = some cs) : row? w b off n = some cs := by
  rw [← hr]; unfold row?; rw [h.block b (row_lt hr)]
theorem Ext.cell {a w : World} (h : Ext a w) {b off : Nat} {v : Value} (hr : a.cell? ⟨b, off, none⟩ = some v) : w.cell? ⟨b, off, none⟩ = some v := by
  rw [← hr]
  have hb : b < a.heap.size := by
    rcases Nat.lt_or_ge b a.heap.size with hlt | hge
    · exact hlt
    · rw [World.cell?, Array.getElem?_eq_none hge] at hr; cases hr
  exact Below.cell h (p := ⟨b, off, none⟩) hb
theorem Ext.heap {a w : World} (h : Ext a w) {b : Nat} {o : Obj} (hr : a.heap[b]? = some o) : w.heap[b]? = some o := by
  rw [← hr]
  refine h.block b ?_
  rcases Nat.lt_or_ge b a.heap.size with hlt | hge
  · exact hlt
  · rw [Array.getElem?_eq_none hge] at hr; cases hr

/-! ### a slice that reads as a list -/
/-- the elements xs, each of n cells, lie from A on -/
def SlAt {α : Type} (enc : α → Array Value) (n : Nat) (w : World) (A : Option Addr) (xs : List α) : Prop :=
  0 < xs.length → ∃ b off, A = some ⟨b, off, none⟩ ∧ b < w.heap.size ∧ ∀ i (h : i < xs.length), row? w b (off + i * n) n = some (enc xs[i])
/-- a slice value that reads as xs -/
def Sl {α : Type} (enc : α → Array Value) (n : Nat) (w : World) (v : Value) (xs : List α) : Prop :=
  ∃ A cap, v = .slice A xs.length cap ∧ xs.length ≤ cap ∧ cap ≤ maxLen ∧ SlAt enc n w A xs
theorem SlAt.ext {α : Type} {enc : α → Array Value} {n : Nat} {w w' : World} {A : Option Addr} {xs : List α} (h : SlAt enc n w A xs) (e : Ext w w') : SlAt enc n w' A xs := by
  intro h0
  obtain ⟨b, off, rfl, hb, hr⟩ := h h0
  exact ⟨b, off, rfl, Nat.lt_of_lt_of_le hb e.size, fun i hi => e.row (hr i hi)⟩
theorem Sl.ext {α : Type} {enc : α → Array Value} {n : Nat} {w w' : World} {v : Value} {xs : List α} (h : Sl enc n w v xs) (e : Ext w w') : Sl enc n w' v xs := by
  obtain ⟨A, cap, h1, h2, h3, h4⟩ := h
  exact ⟨A, cap, h1, h2, h3, h4.ext e⟩
theorem Sl.nil {α : Type} (enc : α → Array Value) (n : Nat) (w : World) : Sl enc n w (.slice none 0 0) [] := ⟨none, 0, rfl, Nat.le_refl _, Nat.zero_le _, fun h => absurd h (by simp)⟩
theorem SlAt.take {α : Type} {enc : α → Array Value} {n : Nat} {w : World} {A : Option Addr} {xs : List α} (h : SlAt enc n w A xs) (k : Nat) : SlAt enc n w A (xs.take k) := by
  intro h0
  have h0' : 0 < xs.length := by simp at h0; omega
  obtain ⟨b, off, rfl, hb, hr⟩ := h h0'
  exact ⟨b, off, rfl, hb, fun i hi => by rw [List.getElem_take]; exact hr i (by simp at hi; omega)⟩
theorem SlAt.drop {α : Type} {enc : α → Array Value} {n : Nat} {w : World} {A : Option Addr} {xs : List α} (h : SlAt enc n w A xs) (k cap : Nat) (hk : k ≤ xs.length) (hc : xs.length ≤ cap) :
    SlAt enc n w (cutA cap k n A) (xs.drop k) := by
  rw [cutA_def]
  intro h0
  have h0' : k < xs.length := by simp at h0; omega
  obtain ⟨b, off, rfl, hb, hr⟩ := h (by omega)
  rw [if_neg (by omega)]
  have hadd : (⟨b, off, none⟩ : Addr).add (k * n) = ⟨b, off + k * n, none⟩ := by unfold Addr.add; split <;> simp_all
  refine ⟨b, off + k * n, by simp [hadd], hb, fun i hi => ?_⟩
  rw [List.getElem_drop, show off + k * n + i * n = off + (k + i) * n from by rw [Nat.add_mul]; omega]
  exact hr (k + i) (by simp at hi; omega)
/-- a cut up to place k -/
theorem Sl.hi {α : Type} {enc : α → Array Value} {n : Nat} {w : World} {A : Option Addr} {len cap : Nat} {xs : List α} (h : Sl enc n w (.slice A len cap) xs) (k : Nat) (hk : k ≤ xs.length) : Sl enc n w (.slice A k cap) (xs.take k) := by
  obtain ⟨A', cap', e, h1, h2, h3⟩ := h
  injection e with e1 e2 e3
  subst e1 e2 e3
  exact ⟨A, cap, by rw [List.length_take, Nat.min_eq_left hk], by rw [List.length_take]; omega, h2, h3.take k⟩
/-- a cut from place k on -/
theorem Sl.lo {α : Type} {enc : α → Array Value} {n : Nat} {w : World} {A : Option Addr} {len cap : Nat} {xs : List α} (h : Sl enc n w (.slice A len cap) xs) (k : Nat) (hk : k ≤ xs.length) : Sl enc n w (.slice (cutA cap k n A) (len - k) (cap - k)) (xs.drop k) := by
  obtain ⟨A', cap', e, h1, h2, h3⟩ := h
  injection e with e1 e2 e3
  subst e1 e2 e3
  exact ⟨_, cap - k, by rw [List.length_drop], by rw [List.length_drop]; omega, by omega, h3.drop k cap hk h1⟩
/-- a cut from i to j, with room up to m -/
theorem Sl.mid {α : Type} {enc : α → Array Value} {n : Nat} {w : World} {A : Option Addr} {len cap : Nat} {xs : List α} (h : Sl enc n w (.slice A len cap) xs) (i j m : Nat) (hi : i ≤ j) (hj : j ≤ xs.length) (hm : j ≤ m) (hc : m ≤ cap) :
    Sl enc n w (.slice (cutA m i n A) (j - i) (m - i)) ((xs.take j).drop i) := by
  obtain ⟨A', cap', e, h1, h2, h3⟩ := h
  injection e with e1 e2 e3
  subst e1 e2 e3
  have hl : (xs.take j).length = j := by rw [List.length_take]; omega
  exact ⟨_, m - i, by rw [List.length_drop, hl], by rw [List.length_drop, hl]; omega, by omega, (h3.take j).drop i m (by omega) (by omega)⟩
theorem row_of_cell {w : World} {b o : Nat} {v : Value} (h : w.cell? ⟨b, o, none⟩ = some v) : row? w b o 1 = some #[v] := by
  unfold World.cell? at h
  split at h
  · rename_i c t fr hb
    simp only [Option.isSome_none, Bool.false_eq_true, if_false] at h
    rw [row_block hb]
    have hlt : o < c.size := (Array.getElem?_eq_some_iff.1 h).1
    unfold rowOf
    rw [if_pos (by omega)]
    congr 1
    apply Array.ext_getElem?
    intro k
    rw [Array.getElem?_extract]
    by_cases hk : k < 1
    · obtain rfl : k = 0 := by omega
      rw [if_pos (by omega)]
      simpa using h
    · rw [if_neg (by omega), Array.getElem?_eq_none (by simp; omega)]
  · cases h
/-- numbers that came in: each is a cell; as a list of what they stand for -/
theorem sl_of_ints {α : Type} {enc : α → Array Value} {k : IntKind} (f : Int → α) (hf : ∀ n, (Lit.int k n).wf = true → enc (f n) = #[.int k n]) {w : World} {x : Addr} {l c : Nat} {zs : List Int} (hl : l ≤ c) (hm : c ≤ maxLen) (hz : zs.length = c)
    (hcell : ∀ i, i < zs.length → w.cell? (x.add i) = some (.int k (zs.getD i 0))) (hwz : ∀ n ∈ zs, (Lit.int k n).wf = true) : Sl enc 1 w (.slice (some x) l c) ((zs.take l).map f) := by
  refine ⟨some x, c, by simp; omega, by simp; omega, hm, fun h0 => ?_⟩
  have h0' : 0 < zs.length := by simp at h0; omega
  obtain ⟨b, off, spot⟩ := x
  have hc0 := hcell 0 h0'
  have hspot : spot = none := by simpa [Addr.add] using World.cell?_spot hc0
  subst hspot
  have hb : b < w.heap.size := by
    have := block_lt_of_cell hc0
    simpa [Addr.add] using this
  refine ⟨b, off, rfl, hb, fun i hi => ?_⟩
  have hi' : i < zs.length := by simp at hi; omega
  have h1 := hcell i hi'
  have hadd : (⟨b, off, none⟩ : Addr).add i = ⟨b, off + i, none⟩ := by unfold Addr.add; split <;> simp_all
  rw [hadd] at h1
  rw [Nat.mul_one, row_of_cell h1]
  simp only [List.getElem_map, List.getElem_take]
  rw [hf _ (hwz _ (List.getElem_mem hi'))]
  simp [List.getD_eq_getElem?_getD, hi']
/-- what a call that hands back one value leaves: R of it, in the world behind -/
def Ret (w : World) (R : Value → World → Prop) (e : Ending) (w' : World) : Prop := ∃ v, e = .returned v ∧ R v w' ∧ Ext w w'
/-- a call that hands back just v -/
def Is (w : World) (v : Value) (e : Ending) (w' : World) : Prop := e = .returned v ∧ Ext w w'
theorem Is.mk {w : World} {v u : Value} {w' : World} (h : v = u) (e : Ext w w') : Is w u (.returned v) w' := ⟨by rw [h], e⟩

end Go.Proofs.Ytigbkhjcboecjaa
