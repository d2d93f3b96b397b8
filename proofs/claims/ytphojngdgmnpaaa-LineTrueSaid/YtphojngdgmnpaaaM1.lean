/-
  M1: several texts as one: Base, Own, Abs, AbsRel, AbsDraw, AbsCode, AbsFn, AbsOps, AbsMem, AbsMem2, AbsMem3. No condition beyond those that each theorem states.
-/
import Derived.WalkKit
import Derived.LoopTactic
import Derived.Outline
import Derived.WalkSpells
import Derived.BigQuiet
import Derived.Deep.QuietTactic
import Derived.Deep.RegionHeld3
import Derived.Deep.DrawnRows
import Derived.Lib.Hide
import Derived.StillTailTactics
import Derived.Laws.CopyRow
import Derived.Maps.AppendAt
import Derived.Lib.AppendZeros
import Derived.Lib.AppendZerosOnto
import Derived.Scope
import Derived.WalkLawsBesides
import Derived.Deep.AppendSrc
import Derived.Deep.Upon
namespace Go.Proofs.Ytphojngdgmnpaaa
open Go Go.RowKit
set_option linter.unusedVariables false
set_option linter.unusedSimpArgs false
set_option maxRecDepth 100000

/-! ### numbers behind closed words -/
@[irreducible] def B8 (x : BitVec 8) : Int := x.toNat
@[irreducible] def W32 (x : BitVec 32) : Int := x.toNat
@[irreducible] def D64 (x : BitVec 64) : Int := x.toNat
theorem B8_def (x : BitVec 8) : B8 x = x.toNat := by unfold B8; rfl
theorem W32_def (x : BitVec 32) : W32 x = x.toNat := by unfold W32; rfl
theorem D64_def (x : BitVec 64) : D64 x = x.toNat := by unfold D64; rfl
theorem B8_nonneg (x : BitVec 8) : 0 ≤ B8 x := by rw [B8_def]; omega
theorem B8_lt (x : BitVec 8) : B8 x < 256 := by rw [B8_def]; have := x.isLt; omega
theorem W32_nonneg (x : BitVec 32) : 0 ≤ W32 x := by rw [W32_def]; omega
theorem W32_lt (x : BitVec 32) : W32 x < 4294967296 := by rw [W32_def]; have := x.isLt; omega
theorem D64_nonneg (x : BitVec 64) : 0 ≤ D64 x := by rw [D64_def]; omega
/-- a byte as a place -/
@[irreducible] def bn (x : BitVec 8) : Nat := x.toNat
theorem bn_def (x : BitVec 8) : bn x = x.toNat := by unfold bn; rfl
theorem B8_bn (x : BitVec 8) : B8 x = (bn x : Int) := by rw [B8_def, bn_def]
theorem bn_lt (x : BitVec 8) : bn x < 256 := by rw [bn_def]; exact x.isLt
theorem i64_B8 (x : BitVec 8) : IntKind.i64.wrap (B8 x) = (bn x : Int) := by
  rw [B8_bn, IntKind.wrap_i64]; have := bn_lt x; omega
theorem B8_toNat (x : BitVec 8) : (B8 x).toNat = bn x := by rw [B8_def, bn_def]; omega
theorem B8_inj {a b : BitVec 8} : B8 a = B8 b ↔ a = b := by
  rw [B8_def, B8_def]; exact ⟨fun h => BitVec.eq_of_toNat_eq (by omega), fun h => by rw [h]⟩
theorem W32_inj {a b : BitVec 32} : W32 a = W32 b ↔ a = b := by
  rw [W32_def, W32_def]; exact ⟨fun h => BitVec.eq_of_toNat_eq (by omega), fun h => by rw [h]⟩
theorem D64_inj {a b : BitVec 64} : D64 a = D64 b ↔ a = b := by
  rw [D64_def, D64_def]; exact ⟨fun h => BitVec.eq_of_toNat_eq (by omega), fun h => by rw [h]⟩
theorem B8_beq (a b : BitVec 8) : (B8 a == B8 b) = decide (a = b) := by rw [Bool.eq_iff_iff]; simp [B8_inj]
theorem W32_beq (a b : BitVec 32) : (W32 a == W32 b) = decide (a = b) := by rw [Bool.eq_iff_iff]; simp [W32_inj]
theorem D64_beq (a b : BitVec 64) : (D64 a == D64 b) = decide (a = b) := by rw [Bool.eq_iff_iff]; simp [D64_inj]
theorem B8_ltB (a b : BitVec 8) : (B8 a < B8 b) = (a.toNat < b.toNat) := by simp [B8_def]
theorem B8_ofInt (n : Int) (h0 : 0 ≤ n) (h1 : n < 256) : B8 (BitVec.ofInt 8 n) = n := by
  rw [B8_def, BitVec.toNat_ofInt]; omega
theorem W32_ofInt (n : Int) (h0 : 0 ≤ n) (h1 : n < 4294967296) : W32 (BitVec.ofInt 32 n) = n := by
  rw [W32_def, BitVec.toNat_ofInt]; omega
theorem D64_ofInt (n : Int) (h0 : 0 ≤ n) (h1 : n < 18446744073709551616) : D64 (BitVec.ofInt 64 n) = n := by
  rw [D64_def, BitVec.toNat_ofInt]; omega

theorem B8_wrap (x : BitVec 8) : IntKind.u8.wrap (B8 x) = B8 x := by
  rw [IntKind.wrap_u8']; have := B8_nonneg x; have := B8_lt x; omega
theorem W32_of_B8 (b : BitVec 8) : IntKind.u32.wrap (B8 b) = W32 (b.setWidth 32) := by
  rw [IntKind.wrap_u32', W32_def, B8_def, BitVec.toNat_setWidth]; have := b.isLt; omega
theorem B8_of_W32 (x : BitVec 32) : IntKind.u8.wrap (W32 x) = B8 (x.setWidth 8) := by
  rw [IntKind.wrap_u8', W32_def, B8_def, BitVec.toNat_setWidth]; omega

theorem W32_xor (a b : BitVec 32) : bits .xor .u32 (W32 a) (W32 b) = W32 (a ^^^ b) := by
  simp only [W32_def]
  rw [u32_xor_nat _ _ a.isLt b.isLt, BitVec.toNat_xor]
theorem B8_xor (a b : BitVec 8) : bits .xor .u8 (B8 a) (B8 b) = B8 (a ^^^ b) := by
  simp only [B8_def]
  rw [u8_xor_nat _ _ a.isLt b.isLt, BitVec.toNat_xor]
theorem W32_shr (y : BitVec 32) (n : Nat) : W32 y / (2 ^ n : Nat) = W32 (y >>> n) := by
  rw [W32_def, W32_def, BitVec.toNat_ushiftRight, Nat.shiftRight_eq_div_pow]; omega
theorem W32_not (x : BitVec 32) : bits .xor .u32 IntKind.u32.max (W32 x) = W32 (~~~ x) := by
  have h : bits .xor .u32 4294967295 (W32 x) = W32 (~~~ x) := by
    rw [W32_def, W32_def]
    have h := u32_xor_nat 4294967295 x.toNat (by omega) x.isLt
    rw [BitVec.toNat_not]
    have h2 : (4294967295 : Nat) ^^^ x.toNat = 4294967295 - x.toNat := by
      have := BitVec.toNat_xor (BitVec.allOnes 32) x
      rw [BitVec.allOnes_xor, BitVec.toNat_not] at this
      simpa using this.symm
    rw [h2] at h
    simpa using h
  exact h
theorem u32_unsigned : IntKind.u32.signed = false := rfl
theorem u64_unsigned : IntKind.u64.signed = false := rfl
theorem u8_unsigned : IntKind.u8.signed = false := rfl

attribute [go_sem] i64_B8 B8_nonneg B8_lt B8_toNat B8_beq W32_beq D64_beq B8_wrap W32_of_B8 B8_of_W32 W32_xor B8_xor
attribute [go_sem] W32_not u32_unsigned u64_unsigned u8_unsigned

/-! ### rows of cells, read whole -/
/-- a part of a row of cells -/
def rowOf (cs : Array Value) (off n : Nat) : Option (Array Value) := if off + n ≤ cs.size then some (cs.extract off (off + n)) else none
def row? (w : World) (b off n : Nat) : Option (Array Value) :=
  match w.heap[b]? with
  | some (.cells cs _ _) => rowOf cs off n
  | _ => none
theorem rowOf_full (cs : Array Value) (n : Nat) (h : cs.size = n) : rowOf cs 0 n = some cs := by
  unfold rowOf; subst h; simp
theorem rowOf_spec {c cs : Array Value} {off n : Nat} (h : rowOf c off n = some cs) : cs.size = n ∧ off + n ≤ c.size ∧ ∀ j, j < n → c[off + j]? = cs[j]? := by
  unfold rowOf at h
  split at h
  · rename_i hle
    injection h with h; subst h
    refine ⟨by simp; omega, hle, fun j hj => ?_⟩
    rw [Array.getElem?_extract, if_pos (by omega)]
  · cases h
theorem rowOf_sub {c cs : Array Value} {off n o m : Nat} (h : rowOf c off n = some cs) (hm : o + m ≤ n) : rowOf c (off + o) m = rowOf cs o m := by
  obtain ⟨hs, hle, hc⟩ := rowOf_spec h
  unfold rowOf
  rw [if_pos (by omega), if_pos (by omega)]
  congr 1
  apply Array.ext_getElem?
  intro k
  simp only [Array.getElem?_extract]
  by_cases hk : k < m
  · rw [if_pos (by omega), if_pos (by omega), show off + o + k = off + (o + k) from by omega]
    exact hc _ (by omega)
  · rw [if_neg (by omega), if_neg (by omega)]
theorem row_block {w : World} {b off n : Nat} {c : Array Value} {t : TypeId} {fr : Nat × Nat} (h : w.heap[b]? = some (.cells c t fr)) : row? w b off n = rowOf c off n := by
  unfold row?; rw [h]
theorem row_lt {w : World} {b off n : Nat} {cs : Array Value} (h : row? w b off n = some cs) : b < w.heap.size := by
  unfold row? at h
  rcases Nat.lt_or_ge b w.heap.size with hlt | hge
  · exact hlt
  · rw [Array.getElem?_eq_none hge] at h; cases h
theorem row_cells {w : World} {b off n : Nat} {cs : Array Value} (h : row? w b off n = some cs) : cs.size = n ∧ ∀ j, j < n → w.cell? ⟨b, off + j, none⟩ = cs[j]? := by
  unfold row? at h
  split at h
  · rename_i c t fr hb
    obtain ⟨h1, _, h3⟩ := rowOf_spec h
    exact ⟨h1, fun j hj => by simp only [World.cell?, hb, Option.isSome_none, Bool.false_eq_true, if_false]; exact h3 j hj⟩
  · cases h
theorem row_cell {w : World} {b off n : Nat} {cs : Array Value} (h : row? w b off n = some cs) {j : Nat} (hj : j < n) {v : Value} (hv : cs[j]? = some v) : w.cell? ⟨b, off + j, none⟩ = some v :=
  ((row_cells h).2 j hj).trans hv
theorem row_cell0 {w : World} {b off n : Nat} {cs : Array Value} (h : row? w b off n = some cs) (hj : 0 < n) {v : Value} (hv : cs[0]? = some v) : w.cell? ⟨b, off, none⟩ = some v :=
  row_cell h hj hv
theorem row_sub {w : World} {b off n : Nat} {cs : Array Value} (h : row? w b off n = some cs) (o m : Nat) (hm : o + m ≤ n) : row? w b (off + o) m = rowOf cs o m := by
  unfold row? at h
  split at h
  · rename_i c t fr hb
    rw [row_block hb]
    exact rowOf_sub h hm
  · cases h

/- a load, a store, a new variable, a composite of a struct's or an array's type: closed words, so that the walk does not lay them open -/
@[irreducible] def ldRow (t : TypeId) (v : Value) : Sem Value := Instr.loadAt t v
@[irreducible] def ldRow' (t : TypeId) (v : Value) : Sem Value := Instr.loadAt t v
theorem ldRow_eq (t : TypeId) (v : Value) : Instr.loadAt t v = ldRow t v := by unfold ldRow; rfl
@[irreducible] def stRow (t : TypeId) (a v : Value) : Sem Unit := Instr.storeAt t a v
@[irreducible] def stRow' (t : TypeId) (a v : Value) : Sem Unit := Instr.storeAt t a v
theorem stRow_eq (t : TypeId) (a v : Value) : Instr.storeAt t a v = stRow t a v := by unfold stRow; rfl
@[irreducible] def alRow (t : TypeId) (h : Bool) (o : Value) : Sem Value := Instr.alloc t h o
theorem alRow_eq (t : TypeId) (h : Bool) (o : Value) : Instr.alloc t h o = alRow t h o := by unfold alRow; rfl
@[irreducible] def bdRow (t : TypeId) (ps : Array (Nat × Value)) : Sem Value := Instr.build t ps
theorem bdRow_eq (t : TypeId) (ps : Array (Nat × Value)) : Instr.build t ps = bdRow t ps := by unfold bdRow; rfl
@[irreducible] def bsRow (t : TypeId) (n : Nat) (ps : Array (Nat × Value)) : Sem Value := Instr.buildSlice t n ps
theorem bsRow_eq (t : TypeId) (n : Nat) (ps : Array (Nat × Value)) : Instr.buildSlice t n ps = bsRow t n ps := by unfold bsRow; rfl
@[irreducible] def onRow (o : Option (Array Value)) (w : World) (r : Result Value) : Result Value := match o with | some cs => .ok (.agg cs) w | none => r
theorem onRow_some (cs : Array Value) (w : World) (r : Result Value) : onRow (some cs) w r = .ok (.agg cs) w := by unfold onRow; rfl
theorem run_loadCells_row {P : Program} {w : World} {b off n : Nat} {cs : Array Value} (h : row? w b off n = some cs) : (loadCells ⟨b, off, none⟩ n).run P w = .ok cs w := by
  obtain ⟨hs, hc⟩ := row_cells h
  have hl : (loadCells ⟨b, off, none⟩ cs.toList.length).run P w = .ok cs.toList.toArray w :=
    run_loadCells_list (P := P) w ⟨b, off, none⟩ cs.toList (fun j v hv => by
      have hadd : (⟨b, off, none⟩ : Addr).add j = ⟨b, off + j, none⟩ := by unfold Addr.add; split <;> simp_all
      have hj : j < n := by
        have := (List.getElem?_eq_some_iff.1 hv).1
        simp at this; omega
      rw [hadd, hc j hj]
      simpa using hv)
  simpa [hs] using hl
theorem run_loadVar_at {P : Program} {t : TypeId} {n : Nat} {d : TypeDesc} (hu : P.underlying t = some d) (hd : (match d with | .struct _ | .array _ _ => true | _ => false) = true) (hi : (P.info? t).map (·.size) = some n)
    {b off : Nat} {w : World} {cs : Array Value} (h : row? w b off n = some cs) : (loadVar t ⟨b, off, none⟩).run P w = .ok (.agg cs) w := by
  have hl := run_loadCells_row (P := P) h
  cases hq : P.info? t with
  | none => rw [hq] at hi; cases hi
  | some i =>
    have hs' : i.size = n := by simpa [hq] using hi
    have hagg : (isAgg t).run P w = .ok true w := by
      unfold isAgg
      rw [Sem.run_bind, run_underlying hu w]
      cases d <;> simp_all
    simp [loadVar, Sem.run_bind, hagg, sizeOf, typeInfo, hq, hs', hl]
theorem run_ldRow {P : Program} {t : TypeId} {n : Nat} {d : TypeDesc} (hu : P.underlying t = some d) (hd : (match d with | .struct _ | .array _ _ => true | _ => false) = true) (hi : (P.info? t).map (·.size) = some n)
    (b off : Nat) (w : World) : (ldRow t (.pointer (some ⟨b, off, none⟩))).run P w = onRow (row? w b off n) w ((ldRow' t (.pointer (some ⟨b, off, none⟩))).run P w) := by
  unfold onRow ldRow
  split
  · rename_i cs h
    simp [Instr.loadAt, Instr.sureAddr, run_loadVar_at hu hd hi h]
  · unfold ldRow'; rfl
theorem run_alRow {P : Program} {t : TypeId} {z : Value} (hz : (P.info? t).bind (·.zero) = some z) (w : World) (o : Value) :
    (alRow t true o).run P w = .ok (.pointer (some ⟨w.heap.size, 0, none⟩)) (w.alloc (.cells z.cells t)) := by
  unfold alRow
  cases hq : P.info? t with
  | none => rw [hq] at hz; cases hz
  | some i =>
    have hz' : i.zero = some z := by simpa [hq] using hz
    simp [Instr.alloc, zeroValue, typeInfo, hq, hz', newVar, newRow, go_sem]

/-! ### rows of cells, written whole -/
def splice (c : Array Value) (off : Nat) (cs : Array Value) : Array Value := (c.toList.take off ++ cs.toList ++ c.toList.drop (off + cs.size)).toArray
def putRow (w : World) (b off : Nat) (cs : Array Value) : World :=
  { w with heap := w.heap.modify b fun
      | .cells c t fr => .cells (splice c off cs) t fr
      | o => o }
def free? (w : World) (b : Nat) : Bool := match w.heap[b]? with | some (.cells _ _ fr) => decide (fr = (0, 0)) | _ => false
def oneCells (cs : Array Value) : Bool := cs.all fun v => v.oneCell'
theorem splice_full (c cs : Array Value) (h : cs.size = c.size) : splice c 0 cs = cs := by
  unfold splice
  have : c.toList.drop (0 + cs.size) = [] := List.drop_eq_nil_of_le (by simp; omega)
  rw [this]; simp
theorem splice_size (c cs : Array Value) (off : Nat) (h : off + cs.size ≤ c.size) : (splice c off cs).size = c.size := by
  unfold splice; simp; omega
theorem splice_get {c cs : Array Value} {off : Nat} (h : off + cs.size ≤ c.size) (k : Nat) : (splice c off cs)[k]? = if off ≤ k ∧ k < off + cs.size then cs[k - off]? else c[k]? := by
  unfold splice
  simp only [List.getElem?_toArray, List.getElem?_append, List.length_append, List.length_take, Array.length_toList, List.getElem?_take, List.getElem?_drop, Array.getElem?_toList]
  by_cases h1 : k < off
  · rw [if_pos (by omega), if_pos (by omega), if_pos (by omega), if_neg (by omega)]
  · by_cases h2 : k < off + cs.size
    · rw [if_pos (by omega), if_neg (by omega), if_pos (by omega)]; congr 1; omega
    · rw [if_neg (by omega), if_neg (by omega)]; congr 1; omega
theorem storeCells_splice (P : Program) (b : Nat) (t : TypeId) : ∀ (vs : List Value) (off i : Nat) (c : Array Value) (w : World), w.heap[b]? = some (.cells c t (0, 0)) → off + i + vs.length ≤ c.size → (∀ v ∈ vs, v.oneCell' = true) →
    (storeCells ⟨b, off, none⟩ vs i).run P w = .ok () (putRow w b (off + i) vs.toArray) := by
  intro vs off i c w hb hs h1
  have hst := run_storeCells_at (P := P) b off t vs i c w hb hs h1
  have e : putRow w b (off + i) vs.toArray = w.setRow b (c.toList.take (off + i) ++ vs ++ c.toList.drop (off + i + vs.length)).toArray := by
    unfold putRow World.setRow
    congr 1
    apply Array.ext_getElem?
    intro k
    simp only [Array.getElem?_modify]
    by_cases hk : b = k
    · subst hk
      simp only [hb, if_true, Option.map_some]
      rfl
    · simp [hk]
  rw [e]
  exact hst

theorem splice_rowOf {c cs : Array Value} {off n : Nat} (h : off + cs.size ≤ c.size) (hn : cs.size = n) : rowOf (splice c off cs) off n = some cs := by
  unfold rowOf
  rw [if_pos (by rw [splice_size c cs off h]; omega)]
  congr 1
  apply Array.ext_getElem?
  intro k
  rw [Array.getElem?_extract]
  by_cases hk : k < n
  · rw [if_pos (by rw [splice_size c cs off h]; omega), splice_get h, if_pos (by omega)]; congr 1; omega
  · rw [if_neg (by omega), Array.getElem?_eq_none (by omega)]
theorem splice_rowOf_apart {c cs : Array Value} {off o n : Nat} (h : off + cs.size ≤ c.size) (ha : o + n ≤ off ∨ off + cs.size ≤ o) : rowOf (splice c off cs) o n = rowOf c o n := by
  unfold rowOf
  rw [splice_size c cs off h]
  split
  · congr 1
    apply Array.ext_getElem?
    intro k
    rw [Array.getElem?_extract, Array.getElem?_extract, splice_size c cs off h]
    split
    · rw [splice_get h, if_neg (by omega)]
    · rfl
  · rfl

theorem heap_old (w : World) (o : Obj) (i : Nat) (h : i < w.heap.size) : (w.alloc o).heap[i]? = w.heap[i]? := by
  show (w.heap.push o)[i]? = w.heap[i]?
  rw [Array.getElem?_push, if_neg (Nat.ne_of_lt h)]
theorem putRow_heap_same {w : World} {b off : Nat} {cs c : Array Value} {t : TypeId} {fr : Nat × Nat} (h : w.heap[b]? = some (.cells c t fr)) : (putRow w b off cs).heap[b]? = some (.cells (splice c off cs) t fr) := by
  unfold putRow
  simp [Array.getElem?_modify, h]
theorem putRow_heap_other {w : World} {b off k : Nat} {cs : Array Value} (h : k ≠ b) : (putRow w b off cs).heap[k]? = w.heap[k]? := by
  unfold putRow
  simp [Array.getElem?_modify, Ne.symm h]
theorem putRow_size (w : World) (b off : Nat) (cs : Array Value) : (putRow w b off cs).heap.size = w.heap.size := by simp [putRow]
theorem row_putRow_other {w : World} {b off k o n : Nat} {cs : Array Value} (h : k ≠ b) : row? (putRow w b off cs) k o n = row? w k o n := by
  unfold row?; rw [putRow_heap_other h]
theorem cell_putRow_other {w : World} {b off k o : Nat} {cs : Array Value} (h : k ≠ b) : (putRow w b off cs).cell? ⟨k, o, none⟩ = w.cell? ⟨k, o, none⟩ := by
  unfold World.cell?; rw [putRow_heap_other h]
theorem frozen_putRow {w : World} {b off k o : Nat} {cs : Array Value} : (putRow w b off cs).frozen? ⟨k, o, none⟩ = w.frozen? ⟨k, o, none⟩ := by
  unfold World.frozen?
  by_cases hk : k = b
  · subst hk
    simp only [putRow, Array.getElem?_modify, if_true]
    cases h : w.heap[k]? with
    | none => simp
    | some o => cases o <;> simp
  · rw [putRow_heap_other hk]
theorem free_putRow {w : World} {b off k : Nat} {cs : Array Value} : free? (putRow w b off cs) k = free? w k := by
  unfold free?
  by_cases hk : k = b
  · subst hk
    simp only [putRow, Array.getElem?_modify, if_true]
    cases h : w.heap[k]? with
    | none => simp
    | some o => cases o <;> simp
  · rw [putRow_heap_other hk]
theorem row_alloc_at (w : World) (cs : Array Value) (t : TypeId) (fr : Nat × Nat) (b off n : Nat) (hb : b = w.heap.size) : row? (w.alloc (.cells cs t fr)) b off n = rowOf cs off n := by
  subst hb; exact row_block (heap_alloc_new w _)
theorem row_alloc_past (w : World) (o : Obj) (b off n : Nat) (h : b < w.heap.size) : row? (w.alloc o) b off n = row? w b off n := by
  unfold row?; rw [heap_old w o b h]
theorem row_drew (w : World) (b off n : Nat) : row? w.drew b off n = row? w b off n := rfl
theorem row_drewN (w : World) (k b off n : Nat) : row? (w.drewN k) b off n = row? w b off n := rfl
theorem free_alloc_at (w : World) (cs : Array Value) (t : TypeId) (b : Nat) (hb : b = w.heap.size) : free? (w.alloc (.cells cs t)) b = true := by
  subst hb; unfold free?; rw [heap_alloc_new]; rfl
theorem free_alloc_past (w : World) (o : Obj) (b : Nat) (h : b < w.heap.size) : free? (w.alloc o) b = free? w b := by
  unfold free?; rw [heap_old w o b h]
theorem free_drew (w : World) (b : Nat) : free? w.drew b = free? w b := rfl
theorem free_drewN (w : World) (k b : Nat) : free? (w.drewN k) b = free? w b := rfl
theorem putRow_drew (w : World) (b off : Nat) (cs : Array Value) : putRow w.drew b off cs = (putRow w b off cs).drew := rfl
theorem putRow_drewN (w : World) (k b off : Nat) (cs : Array Value) : putRow (w.drewN k) b off cs = (putRow w b off cs).drewN k := rfl
theorem putRow_alloc_at (w : World) (c : Array Value) (t : TypeId) (fr : Nat × Nat) (b off : Nat) (cs : Array Value) (hb : b = w.heap.size) : putRow (w.alloc (.cells c t fr)) b off cs = w.alloc (.cells (splice c off cs) t fr) := by
  subst hb
  unfold putRow World.alloc
  congr 1
  apply Array.ext_getElem?
  intro k
  simp only [Array.getElem?_modify, Array.getElem?_push]
  by_cases hk : k = w.heap.size
  · subst hk; simp
  · simp [hk, Ne.symm hk]
theorem putRow_alloc_past (w : World) (o : Obj) (b off : Nat) (cs : Array Value) (h : b < w.heap.size) : putRow (w.alloc o) b off cs = (putRow w b off cs).alloc o := by
  unfold putRow World.alloc
  congr 1
  apply Array.ext_getElem?
  intro k
  simp only [Array.getElem?_modify, Array.getElem?_push, Array.size_modify]
  by_cases hk : k = w.heap.size
  · subst hk; simp [Nat.ne_of_lt h]
  · simp [hk]

/-- what a store of a whole row leaves, where the row is there and free -/
@[irreducible] def onPut (c : Bool) (r : Result Unit) (w0 : Result Unit) : Result Unit := if c then r else w0
theorem onPut_true (r w0 : Result Unit) : onPut true r w0 = r := by unfold onPut; rfl
theorem run_stRow {P : Program} {t : TypeId} {n : Nat} (hi : (P.info? t).map (·.size) = some n)
    (b off : Nat) (cs : Array Value) (w : World) (hs : cs.size = n) (h1 : oneCells cs = true) :
    (stRow t (.pointer (some ⟨b, off, none⟩)) (.agg cs)).run P w = onPut ((row? w b off n).isSome && free? w b) (.ok () (putRow w b off cs)) ((stRow' t (.pointer (some ⟨b, off, none⟩)) (.agg cs)).run P w) := by
  unfold onPut stRow
  split
  · rename_i h
    simp only [Bool.and_eq_true] at h
    obtain ⟨hr, hf⟩ := h
    unfold free? at hf
    split at hf
    · rename_i c t' fr hb
      obtain rfl : fr = (0, 0) := by simpa using hf
      rw [row_block hb] at hr
      have hle : off + n ≤ c.size := by
        unfold rowOf at hr
        split at hr
        · assumption
        · cases hr
      have hst := storeCells_splice P b t' cs.toList off 0 c w hb (by simp; omega) (fun v hv => by
        unfold oneCells at h1
        rw [← Array.all_toList] at h1
        exact List.all_eq_true.1 h1 v hv)
      cases hq : P.info? t with
      | none => rw [hq] at hi; cases hi
      | some i =>
        have hs' : i.size = n := by simpa [hq] using hi
        simp only [Nat.add_zero, Array.toArray_toList] at hst
        simp [Instr.storeAt, Instr.sureAddr, storeVar, Value.cells, sizeOf, typeInfo, hq, hs, hs', hst]
    · cases hf
  · unfold stRow'; rfl

attribute [go_sem] onRow_some onPut_true row_alloc_at row_alloc_past row_drew row_drewN free_alloc_at free_alloc_past free_drew free_drewN putRow_drew putRow_drewN putRow_alloc_at putRow_alloc_past

/-! ### cuts of a slice -/
/-- where a cut from place k on begins (nothing is moved where no room is left) -/
@[irreducible] def cutA (cap k n : Nat) (A : Option Addr) : Option Addr := if cap = k then A else A.map (·.add (k * n))
theorem cutA_def (cap k n : Nat) (A : Option Addr) : cutA cap k n A = if cap = k then A else A.map (·.add (k * n)) := by unfold cutA; rfl
theorem cutA_zero (cap n : Nat) (A : Option Addr) : cutA cap 0 n A = A := by
  rw [cutA_def]; split
  · rfl
  · cases A <;> simp [Addr.add]
@[irreducible] def slRow (t : TypeId) (x : Value) (lo hi mx : Option Value) : Sem Value := Instr.sliceAt t x lo hi mx
theorem slRow_eq (t : TypeId) (x : Value) (lo hi mx : Option Value) : Instr.sliceAt t x lo hi mx = slRow t x lo hi mx := by unfold slRow; rfl
section
variable {P : Program} {t e : TypeId} {n : Nat} (hu : P.underlying t = some (.slice e)) (hn : (P.info? e).map (·.size) = some n)
include hn in
omit hu in
theorem run_sizeOf_some (w : World) : (sizeOf e).run P w = .ok n w := by
  cases hq : P.info? e with
  | none => rw [hq] at hn; cases hn
  | some i =>
    have : i.size = n := by simpa [hq] using hn
    simp [sizeOf, typeInfo, hq, this]
include hu hn
theorem run_sl_hi (A : Option Addr) (len cap : Nat) (k : Int) (h0 : 0 ≤ k) (h1 : k ≤ cap) (w : World) :
    (slRow t (.slice A len cap) none (some (.int .i64 k)) none).run P w = .ok (.slice A k.toNat cap) w := by
  unfold slRow
  have hs := run_sizeOf_some hn w
  have ha : (if cap = 0 then A else A.map fun x => x.add (0 * n)) = A := by
    split
    · rfl
    · cases A <;> simp [Addr.add]
  simp [Instr.sliceAt, Instr.slice, Instr.sliceBounds, Instr.sliceBound, asIntOf, run_underlying hu, hs, h0, h1]
  cases A <;> simp [Addr.add]
theorem run_sl_lo (A : Option Addr) (len cap : Nat) (k : Int) (h0 : 0 ≤ k) (h1 : k ≤ len) (w : World) :
    (slRow t (.slice A len cap) (some (.int .i64 k)) none none).run P w = .ok (.slice (cutA cap k.toNat n A) (len - k.toNat) (cap - k.toNat)) w := by
  unfold slRow
  have hs := run_sizeOf_some hn w
  simp [Instr.sliceAt, Instr.slice, Instr.sliceBounds, Instr.sliceBound, asIntOf, run_underlying hu, hs, h0, h1, cutA_def]
theorem run_sl_lohi (A : Option Addr) (len cap : Nat) (i j : Int) (h0 : 0 ≤ i) (h1 : i ≤ j) (h2 : j ≤ cap) (w : World) :
    (slRow t (.slice A len cap) (some (.int .i64 i)) (some (.int .i64 j)) none).run P w = .ok (.slice (cutA cap i.toNat n A) (j.toNat - i.toNat) (cap - i.toNat)) w := by
  unfold slRow
  have hs := run_sizeOf_some hn w
  have h3 : 0 ≤ j := by omega
  have h4 : max j 0 = j := by omega
  simp [Instr.sliceAt, Instr.slice, Instr.sliceBounds, Instr.sliceBound, asIntOf, run_underlying hu, hs, h0, h1, h2, h3, h4, cutA_def]
theorem run_sl_3 (A : Option Addr) (len cap : Nat) (i j m : Int) (h0 : 0 ≤ i) (h1 : i ≤ j) (h2 : j ≤ m) (h5 : m ≤ cap) (w : World) :
    (slRow t (.slice A len cap) (some (.int .i64 i)) (some (.int .i64 j)) (some (.int .i64 m))).run P w = .ok (.slice (cutA m.toNat i.toNat n A) (j.toNat - i.toNat) (m.toNat - i.toNat)) w := by
  unfold slRow
  have hs := run_sizeOf_some hn w
  have h3 : 0 ≤ j := by omega
  have h4 : max j 0 = j := by omega
  have h6 : 0 ≤ m := by omega
  have h7 : max m 0 = m := by omega
  simp [Instr.sliceAt, Instr.slice, Instr.sliceBounds, Instr.sliceBound, asIntOf, run_underlying hu, hs, h0, h1, h2, h3, h4, h5, h6, h7, cutA_def]
theorem run_sl_hi3 (A : Option Addr) (len cap : Nat) (j m : Int) (h1 : 0 ≤ j) (h2 : j ≤ m) (h5 : m ≤ cap) (w : World) :
    (slRow t (.slice A len cap) none (some (.int .i64 j)) (some (.int .i64 m))).run P w = .ok (.slice A j.toNat m.toNat) w := by
  unfold slRow
  have hs := run_sizeOf_some hn w
  have h6 : 0 ≤ m := by omega
  have h7 : max m 0 = m := by omega
  simp [Instr.sliceAt, Instr.slice, Instr.sliceBounds, Instr.sliceBound, asIntOf, run_underlying hu, hs, h1, h2, h5, h6, h7]
  cases A <;> simp [Addr.add]
theorem run_sl_all (A : Option Addr) (len cap : Nat) (w : World) :
    (slRow t (.slice A len cap) none none none).run P w = .ok (.slice A len cap) w := by
  unfold slRow
  have hs := run_sizeOf_some hn w
  simp [Instr.sliceAt, Instr.slice, Instr.sliceBounds, run_underlying hu, hs]
  cases A <;> simp [Addr.add]
end

/-! ### make -/
theorem run_make_sl {P : Program} {t e : TypeId} {z : Value} {size bytes : Nat} (ht : P.underlying t = some (.slice e)) (hi : (P.info? e).map (fun i => (i.zero, i.size, i.bytes)) = some (some z, size, bytes))
    (l c : Nat) (hlc : l ≤ c) (hb : bytes * c ≤ 281474976710656) (hc : c ≤ 9223372036854775807) (w : World) :
    (Instr.makeSlice t (.int .i64 (l : Int)) (.int .i64 (c : Int))).run P w = .ok (.slice (some ⟨w.heap.size, 0, none⟩) l c) (w.alloc (.cells (madeCells z.cells (c * size)) e)) := by
  obtain ⟨i, hi1, hz0, hz1, hz2⟩ := info_parts hi
  have hb' : (i.bytes : Int) * (c : Int) ≤ 281474976710656 := by
    have h : ((i.bytes * c : Nat) : Int) ≤ 281474976710656 := by rw [hz2]; omega
    rwa [Int.natCast_mul] at h
  have hr := run_make (P := P) w t e i z ht hi1 hz0 .i64 .i64 l c (by omega) (by omega) hb' (by omega)
  simp only [Int.toNat_natCast, hz1] at hr
  exact hr

/-! ### results -/
def resOf (tmps : Array Value) : ResultVar → Sem Value
  | .tmp t => pure (tmps.getD t undef)
  | .cell a t => do loadVar t (← asAddr (tmps.getD a undef))
theorem results_eq (fn : Func) (tmps : Array Value) : results fn tmps = (do
    let vs ← fn.results.mapM (resOf tmps)
    pure (if h : vs.size = 1 then vs[0] else .tuple vs)) := by
  unfold results
  congr 1
/-- what one result reads as when the call leaves -/
def Res (P : Program) (tmps : Array Value) (w : World) (r : ResultVar) (v : Value) : Prop := (resOf tmps r).run P w = .ok v w
theorem res_tmp {P : Program} {tmps : Array Value} {w : World} {t : Tmp} : Res P tmps w (.tmp t) (tmps.getD t undef) := by simp [Res, resOf]
theorem res_cell {P : Program} {tmps : Array Value} {w : World} {a : Tmp} {t : TypeId} {n : Nat} {d : TypeDesc} {g off : Nat} {cs : Array Value} (hu : P.underlying t = some d) (hd : (match d with | .struct _ | .array _ _ => true | _ => false) = true)
    (hi : (P.info? t).map (·.size) = some n) (ha : tmps.getD a undef = .pointer (some ⟨g, off, none⟩)) (h : row? w g off n = some cs) : Res P tmps w (.cell a t) (.agg cs) := by
  simp only [Res, resOf, ha]
  simp [asAddr, run_loadVar_at hu hd hi h]
theorem results_1 {P : Program} {fn : Func} {tmps : Array Value} {w : World} {r0 : ResultVar} {v0 : Value} (h : fn.results = #[r0]) (h0 : Res P tmps w r0 v0) :
    (results fn tmps).run P w = .ok (v0) w := by
  unfold Res at h0
  rw [results_eq]
  simp [h, h0]
theorem results_2 {P : Program} {fn : Func} {tmps : Array Value} {w : World} {r0 r1 : ResultVar} {v0 v1 : Value} (h : fn.results = #[r0, r1]) (h0 : Res P tmps w r0 v0) (h1 : Res P tmps w r1 v1) :
    (results fn tmps).run P w = .ok (.tuple #[v0, v1]) w := by
  unfold Res at h0 h1
  rw [results_eq]
  simp [h, h0, h1]
theorem results_3 {P : Program} {fn : Func} {tmps : Array Value} {w : World} {r0 r1 r2 : ResultVar} {v0 v1 v2 : Value} (h : fn.results = #[r0, r1, r2]) (h0 : Res P tmps w r0 v0) (h1 : Res P tmps w r1 v1) (h2 : Res P tmps w r2 v2) :
    (results fn tmps).run P w = .ok (.tuple #[v0, v1, v2]) w := by
  unfold Res at h0 h1 h2
  rw [results_eq]
  simp [h, h0, h1, h2]
theorem results_4 {P : Program} {fn : Func} {tmps : Array Value} {w : World} {r0 r1 r2 r3 : ResultVar} {v0 v1 v2 v3 : Value} (h : fn.results = #[r0, r1, r2, r3]) (h0 : Res P tmps w r0 v0) (h1 : Res P tmps w r1 v1) (h2 : Res P tmps w r2 v2) (h3 : Res P tmps w r3 v3) :
    (results fn tmps).run P w = .ok (.tuple #[v0, v1, v2, v3]) w := by
  unfold Res at h0 h1 h2 h3
  rw [results_eq]
  simp [h, h0, h1, h2, h3]
theorem results_5 {P : Program} {fn : Func} {tmps : Array Value} {w : World} {r0 r1 r2 r3 r4 : ResultVar} {v0 v1 v2 v3 v4 : Value} (h : fn.results = #[r0, r1, r2, r3, r4]) (h0 : Res P tmps w r0 v0) (h1 : Res P tmps w r1 v1) (h2 : Res P tmps w r2 v2) (h3 : Res P tmps w r3 v3) (h4 : Res P tmps w r4 v4) :
    (results fn tmps).run P w = .ok (.tuple #[v0, v1, v2, v3, v4]) w := by
  unfold Res at h0 h1 h2 h3 h4
  rw [results_eq]
  simp [h, h0, h1, h2, h3, h4]
theorem results_6 {P : Program} {fn : Func} {tmps : Array Value} {w : World} {r0 r1 r2 r3 r4 r5 : ResultVar} {v0 v1 v2 v3 v4 v5 : Value} (h : fn.results = #[r0, r1, r2, r3, r4, r5]) (h0 : Res P tmps w r0 v0) (h1 : Res P tmps w r1 v1) (h2 : Res P tmps w r2 v2) (h3 : Res P tmps w r3 v3) (h4 : Res P tmps w r4 v4) (h5 : Res P tmps w r5 v5) :
    (results fn tmps).run P w = .ok (.tuple #[v0, v1, v2, v3, v4, v5]) w := by
  unfold Res at h0 h1 h2 h3 h4 h5
  rw [results_eq]
  simp [h, h0, h1, h2, h3, h4, h5]

/-! ### what a call leaves -/
theorem below_drewN {B : Nat} {a w : World} (h : Below B a w) (n : Nat) : Below B a (w.drewN n) := ⟨h.os, h.tape, h.output, h.size, h.block⟩
/-- what was there when the call began is as it was -/
def Ext (w w' : World) : Prop := Below w.heap.size w w'
theorem Ext.refl (w : World) : Ext w w := Below.refl _ _
theorem Ext.trans {a b c : World} (h : Ext a b) (k : Ext b c) : Ext a c := Below.trans h (Below.mono k h.size)
theorem Ext.drew {a w : World} (h : Ext a w) : Ext a w.drew := Below.drew h
theorem Ext.drewN {a w : World} (h : Ext a w) (n : Nat) : Ext a (w.drewN n) := below_drewN h n
theorem Ext.alloc {a w : World} (h : Ext a w) (o : Obj) : Ext a (w.alloc o) := Below.alloc h h.size o
theorem Ext.setCell {a w : World} (h : Ext a w) {g i : Nat} (hg : a.heap.size ≤ g) (u : Value) : Ext a (w.setCell ⟨g, i, none⟩ u) := Below.setCell (p := ⟨g, i, none⟩) h hg u
theorem Ext.putRow {a w : World} (h : Ext a w) {g o : Nat} {cs : Array Value} (hg : a.heap.size ≤ g) : Ext a (putRow w g o cs) :=
  Below.trans h ⟨rfl, rfl, rfl, by rw [putRow_size]; exact Nat.le_refl _, fun k hk => putRow_heap_other (by omega)⟩
theorem Ext.le {a w : World} (h : Ext a w) : a.heap.size ≤ w.heap.size := h.size
theorem Ext.row {a w : World} (h : Ext a w) {b off n : Nat} {cs : Array Value} (hr : row? a b off n = some cs) : row? w b off n = some cs := by
  rw [← hr]; unfold row?; rw [h.block b (row_lt hr)]
theorem Ext.cell {a w : World} (h : Ext a w) {b off : Nat} {v : Value} (hr : a.cell? ⟨b, off, none⟩ = some v) : w.cell? ⟨b, off, none⟩ = some v := by
  rw [← hr]
  have hb : b < a.heap.size := by
    rcases Nat.lt_or_ge b a.heap.size with hlt | hge
    · exact hlt
    · rw [World.cell?, Array.getElem?_eq_none hge] at hr; cases hr
  exact Below.cell h (p := ⟨b, off, none⟩) hb
theorem Ext.heap {a w : World} (h : Ext a w) {b : Nat} {o : Obj} (hr : a.heap[b]? = some o) : w.heap[b]? = some o := by
  rw [← hr]
  refine h.block b ?_
  rcases Nat.lt_or_ge b a.heap.size with hlt | hge
  · exact hlt
  · rw [Array.getElem?_eq_none hge] at hr; cases hr

/-! ### a slice that reads as a list -/
/-- the elements xs, each of n cells, lie from A on -/
def SlAt {α : Type} (enc : α → Array Value) (n : Nat) (w : World) (A : Option Addr) (xs : List α) : Prop :=
  0 < xs.length → ∃ b off, A = some ⟨b, off, none⟩ ∧ b < w.heap.size ∧ ∀ i (h : i < xs.length), row? w b (off + i * n) n = some (enc xs[i])
/-- a slice value that reads as xs -/
def Sl {α : Type} (enc : α → Array Value) (n : Nat) (w : World) (v : Value) (xs : List α) : Prop :=
  ∃ A cap, v = .slice A xs.length cap ∧ xs.length ≤ cap ∧ cap ≤ maxLen ∧ SlAt enc n w A xs
theorem SlAt.ext {α : Type} {enc : α → Array Value} {n : Nat} {w w' : World} {A : Option Addr} {xs : List α} (h : SlAt enc n w A xs) (e : Ext w w') : SlAt enc n w' A xs := by
  intro h0
  obtain ⟨b, off, rfl, hb, hr⟩ := h h0
  exact ⟨b, off, rfl, Nat.lt_of_lt_of_le hb e.size, fun i hi => e.row (hr i hi)⟩
theorem Sl.ext {α : Type} {enc : α → Array Value} {n : Nat} {w w' : World} {v : Value} {xs : List α} (h : Sl enc n w v xs) (e : Ext w w') : Sl enc n w' v xs := by
  obtain ⟨A, cap, h1, h2, h3, h4⟩ := h
  exact ⟨A, cap, h1, h2, h3, h4.ext e⟩
theorem Sl.nil {α : Type} (enc : α → Array Value) (n : Nat) (w : World) : Sl enc n w (.slice none 0 0) [] := ⟨none, 0, rfl, Nat.le_refl _, Nat.zero_le _, fun h => absurd h (by simp)⟩
theorem SlAt.take {α : Type} {enc : α → Array Value} {n : Nat} {w : World} {A : Option Addr} {xs : List α} (h : SlAt enc n w A xs) (k : Nat) : SlAt enc n w A (xs.take k) := by
  intro h0
  have h0' : 0 < xs.length := by simp at h0; omega
  obtain ⟨b, off, rfl, hb, hr⟩ := h h0'
  exact ⟨b, off, rfl, hb, fun i hi => by rw [List.getElem_take]; exact hr i (by simp at hi; omega)⟩
theorem SlAt.drop {α : Type} {enc : α → Array Value} {n : Nat} {w : World} {A : Option Addr} {xs : List α} (h : SlAt enc n w A xs) (k cap : Nat) (hk : k ≤ xs.length) (hc : xs.length ≤ cap) :
    SlAt enc n w (cutA cap k n A) (xs.drop k) := by
  rw [cutA_def]
  intro h0
  have h0' : k < xs.length := by simp at h0; omega
  obtain ⟨b, off, rfl, hb, hr⟩ := h (by omega)
  rw [if_neg (by omega)]
  have hadd : (⟨b, off, none⟩ : Addr).add (k * n) = ⟨b, off + k * n, none⟩ := by unfold Addr.add; split <;> simp_all
  refine ⟨b, off + k * n, by simp [hadd], hb, fun i hi => ?_⟩
  rw [List.getElem_drop, show off + k * n + i * n = off + (k + i) * n from by rw [Nat.add_mul]; omega]
  exact hr (k + i) (by simp at hi; omega)
/-- a cut up to place k -/
theorem Sl.hi {α : Type} {enc : α → Array Value} {n : Nat} {w : World} {A : Option Addr} {len cap : Nat} {xs : List α} (h : Sl enc n w (.slice A len cap) xs) (k : Nat) (hk : k ≤ xs.length) : Sl enc n w (.slice A k cap) (xs.take k) := by
  obtain ⟨A', cap', e, h1, h2, h3⟩ := h
  injection e with e1 e2 e3
  subst e1 e2 e3
  exact ⟨A, cap, by rw [List.length_take, Nat.min_eq_left hk], by rw [List.length_take]; omega, h2, h3.take k⟩
/-- a cut from place k on -/
theorem Sl.lo {α : Type} {enc : α → Array Value} {n : Nat} {w : World} {A : Option Addr} {len cap : Nat} {xs : List α} (h : Sl enc n w (.slice A len cap) xs) (k : Nat) (hk : k ≤ xs.length) : Sl enc n w (.slice (cutA cap k n A) (len - k) (cap - k)) (xs.drop k) := by
  obtain ⟨A', cap', e, h1, h2, h3⟩ := h
  injection e with e1 e2 e3
  subst e1 e2 e3
  exact ⟨_, cap - k, by rw [List.length_drop], by rw [List.length_drop]; omega, by omega, h3.drop k cap hk h1⟩
/-- a cut from i to j, with room up to m -/
theorem Sl.mid {α : Type} {enc : α → Array Value} {n : Nat} {w : World} {A : Option Addr} {len cap : Nat} {xs : List α} (h : Sl enc n w (.slice A len cap) xs) (i j m : Nat) (hi : i ≤ j) (hj : j ≤ xs.length) (hm : j ≤ m) (hc : m ≤ cap) :
    Sl enc n w (.slice (cutA m i n A) (j - i) (m - i)) ((xs.take j).drop i) := by
  obtain ⟨A', cap', e, h1, h2, h3⟩ := h
  injection e with e1 e2 e3
  subst e1 e2 e3
  have hl : (xs.take j).length = j := by rw [List.length_take]; omega
  exact ⟨_, m - i, by rw [List.length_drop, hl], by rw [List.length_drop, hl]; omega, by omega, (h3.take j).drop i m (by omega) (by omega)⟩
theorem row_of_cell {w : World} {b o : Nat} {v : Value} (h : w.cell? ⟨b, o, none⟩ = some v) : row? w b o 1 = some #[v] := by
  unfold World.cell? at h
  split at h
  · rename_i c t fr hb
    simp only [Option.isSome_none, Bool.false_eq_true, if_false] at h
    rw [row_block hb]
    have hlt : o < c.size := (Array.getElem?_eq_some_iff.1 h).1
    unfold rowOf
    rw [if_pos (by omega)]
    congr 1
    apply Array.ext_getElem?
    intro k
    rw [Array.getElem?_extract]
    by_cases hk : k < 1
    · obtain rfl : k = 0 := by omega
      rw [if_pos (by omega)]
      simpa using h
    · rw [if_neg (by omega), Array.getElem?_eq_none (by simp; omega)]
  · cases h
/-- numbers that came in: each is a cell; as a list of what they stand for -/
theorem sl_of_ints {α : Type} {enc : α → Array Value} {k : IntKind} (f : Int → α) (hf : ∀ n, (Lit.int k n).wf = true → enc (f n) = #[.int k n]) {w : World} {x : Addr} {l c : Nat} {zs : List Int} (hl : l ≤ c) (hm : c ≤ maxLen) (hz : zs.length = c)
    (hcell : ∀ i, i < zs.length → w.cell? (x.add i) = some (.int k (zs.getD i 0))) (hwz : ∀ n ∈ zs, (Lit.int k n).wf = true) : Sl enc 1 w (.slice (some x) l c) ((zs.take l).map f) := by
  refine ⟨some x, c, by simp; omega, by simp; omega, hm, fun h0 => ?_⟩
  have h0' : 0 < zs.length := by simp at h0; omega
  obtain ⟨b, off, spot⟩ := x
  have hc0 := hcell 0 h0'
  have hspot : spot = none := by simpa [Addr.add] using World.cell?_spot hc0
  subst hspot
  have hb : b < w.heap.size := by
    have := block_lt_of_cell hc0
    simpa [Addr.add] using this
  refine ⟨b, off, rfl, hb, fun i hi => ?_⟩
  have hi' : i < zs.length := by simp at hi; omega
  have h1 := hcell i hi'
  have hadd : (⟨b, off, none⟩ : Addr).add i = ⟨b, off + i, none⟩ := by unfold Addr.add; split <;> simp_all
  rw [hadd] at h1
  rw [Nat.mul_one, row_of_cell h1]
  simp only [List.getElem_map, List.getElem_take]
  rw [hf _ (hwz _ (List.getElem_mem hi'))]
  simp [List.getD_eq_getElem?_getD, hi']
/-- what a call that hands back one value leaves: R of it, in the world behind -/
def Ret (w : World) (R : Value → World → Prop) (e : Ending) (w' : World) : Prop := ∃ v, e = .returned v ∧ R v w' ∧ Ext w w'
/-- a call that hands back just v -/
def Is (w : World) (v : Value) (e : Ending) (w' : World) : Prop := e = .returned v ∧ Ext w w'
theorem Is.mk {w : World} {v u : Value} {w' : World} (h : v = u) (e : Ext w w') : Is w u (.returned v) w' := ⟨by rw [h], e⟩

end Go.Proofs.Ytphojngdgmnpaaa

namespace Go.Proofs.Ytphojngdgmnpaaa
open Go Go.RowKit
set_option linter.unusedVariables false
set_option linter.unusedSimpArgs false
set_option maxRecDepth 100000

/-- each element is n cells -/
structure EncOk {α : Type} (enc : α → Array Value) (n : Nat) : Prop where
  size : ∀ x, (enc x).size = n
  one : ∀ x, oneCells (enc x) = true
  pos : 0 < n
/-- t is the type of slices of e, whose elements are n cells and so many bytes -/
structure SlT (P : Program) (t e : TypeId) (n bytes : Nat) : Prop where
  ht : P.underlying t = some (.slice e)
  hi : ∃ i z, P.info? e = some i ∧ i.zero = some z ∧ i.size = n ∧ i.bytes = bytes ∧ z.cells.size = n
theorem SlT.mk' {P : Program} {t e : TypeId} {z : Value} {n bytes : Nat} (ht : P.underlying t = some (.slice e)) (hi : (P.info? e).map (fun i => (i.zero, i.size, i.bytes)) = some (some z, n, bytes)) (hz : z.cells.size = n) : SlT P t e n bytes := by
  obtain ⟨i, h1, h2, h3, h4⟩ := info_parts hi
  exact ⟨ht, i, z, h1, h2, h3, h4, hz⟩

def flat {α : Type} (enc : α → Array Value) (xs : List α) : List Value := xs.flatMap fun x => (enc x).toList
theorem flat_nil {α : Type} (enc : α → Array Value) : flat enc [] = [] := rfl
theorem flat_append {α : Type} (enc : α → Array Value) (a b : List α) : flat enc (a ++ b) = flat enc a ++ flat enc b := by simp [flat]
theorem flat_length {α : Type} {enc : α → Array Value} {n : Nat} (h : EncOk enc n) (xs : List α) : (flat enc xs).length = xs.length * n := by
  induction xs with
  | nil => simp [flat]
  | cons x xs ih =>
    have : flat enc (x :: xs) = (enc x).toList ++ flat enc xs := rfl
    rw [this, List.length_append, ih, List.length_cons, Nat.succ_mul]
    have := h.size x
    simp; omega
theorem flat_get {α : Type} {enc : α → Array Value} {n : Nat} (h : EncOk enc n) (xs : List α) (i j : Nat) (hi : i < xs.length) (hj : j < n) : (flat enc xs)[i * n + j]? = (enc xs[i])[j]? := by
  induction xs generalizing i with
  | nil => simp at hi
  | cons x xs ih =>
    have e : flat enc (x :: xs) = (enc x).toList ++ flat enc xs := rfl
    have hs := h.size x
    rw [e]
    cases i with
    | zero => rw [List.getElem?_append_left (by simp; omega)]; simp
    | succ i =>
      rw [List.getElem?_append_right (by simp; rw [Nat.succ_mul]; omega)]
      have : (i + 1) * n + j - (enc x).toList.length = i * n + j := by simp; rw [Nat.succ_mul]; omega
      rw [this]
      exact ih i (by simpa using hi)
theorem flat_one {α : Type} {enc : α → Array Value} {n : Nat} (h : EncOk enc n) (xs : List α) : ∀ u ∈ flat enc xs, u.oneCell' = true := by
  intro u hu
  simp only [flat, List.mem_flatMap] at hu
  obtain ⟨x, _, hx⟩ := hu
  have h1 := h.one x
  unfold oneCells at h1
  rw [← Array.all_toList] at h1
  exact List.all_eq_true.1 h1 u hx
/-- the cells that a slice's elements are -/
theorem Sl.news {α : Type} {enc : α → Array Value} {n : Nat} {w : World} {b off : Nat} {xs : List α} (hk : EncOk enc n) (h : ∀ i (h : i < xs.length), row? w b (off + i * n) n = some (enc xs[i])) :
    ∀ j u, (flat enc xs)[j]? = some u → w.cell? ((⟨b, off, none⟩ : Addr).add j) = some u := by
  intro j u hu
  have hn := hk.pos
  have hj : j < xs.length * n := by
    rw [← flat_length hk]
    exact (List.getElem?_eq_some_iff.1 hu).1
  have hi : j / n < xs.length := (Nat.div_lt_iff_lt_mul hn).2 hj
  have hr := h (j / n) hi
  have hm : j % n < n := Nat.mod_lt _ hn
  have hd : j / n * n + j % n = j := by rw [Nat.mul_comm]; exact Nat.div_add_mod j n
  have hu2 : (enc xs[j / n])[j % n]? = some u := by
    rw [← flat_get hk xs (j / n) (j % n) hi hm, hd]; exact hu
  have hc := row_cell hr hm hu2
  have hadd : (⟨b, off, none⟩ : Addr).add j = ⟨b, off + j, none⟩ := by unfold Addr.add; split <;> simp_all
  rw [hadd]
  rwa [Nat.add_assoc, hd] at hc

/-- a new row of one element -/
theorem Sl.one {α : Type} {enc : α → Array Value} {n : Nat} (hk : EncOk enc n) (w : World) (e : TypeId) (fr : Nat × Nat) (x : α) : Sl enc n (w.alloc (.cells (enc x) e fr)) (.slice (some ⟨w.heap.size, 0, none⟩) 1 1) [x] := by
  refine ⟨some ⟨w.heap.size, 0, none⟩, 1, rfl, Nat.le_refl _, by unfold maxLen; omega, fun _ => ⟨w.heap.size, 0, rfl, by simp, fun i hi => ?_⟩⟩
  obtain rfl : i = 0 := by simp at hi; exact hi
  rw [row_alloc_at _ _ _ _ _ _ _ rfl, Nat.zero_mul, Nat.add_zero]
  exact rowOf_full _ _ (hk.size x)
/-- a slice of the call's own, from block base on, that reads as xs -/
def Own {α : Type} (base : Nat) (e : TypeId) (enc : α → Array Value) (n : Nat) (w : World) (v : Value) (xs : List α) : Prop :=
  w.ownsRow base e n v xs.length (flat enc xs)
section
variable {α : Type} {base : Nat} {e : TypeId} {enc : α → Array Value} {n : Nat} {w w' : World} {v : Value} {xs ys : List α}
theorem Own.nil (base : Nat) (e : TypeId) (enc : α → Array Value) (n : Nat) (w : World) : Own base e enc n w (.slice none 0 0) [] := ⟨by simp [flat], .inl ⟨rfl, rfl⟩⟩
theorem Own.empty (base : Nat) (e : TypeId) (enc : α → Array Value) (n : Nat) (w : World) (hb : base ≤ w.heap.size) : Own base e enc n (w.alloc (.cells #[] e)) (.slice (some ⟨w.heap.size, 0, none⟩) 0 0) [] :=
  World.ownsRow_made w #[] 0 hb (by unfold maxLen; omega) (by simp)
theorem Own.made (base : Nat) (e : TypeId) (enc : α → Array Value) (n : Nat) (w : World) (cur : Array Value) (c : Nat) (hb : base ≤ w.heap.size) (hc : c ≤ maxLen) (hs : cur.size = c * n) : Own base e enc n (w.alloc (.cells cur e)) (.slice (some ⟨w.heap.size, 0, none⟩) 0 c) [] :=
  World.ownsRow_made w cur c hb hc hs
theorem Own.sl (h : Own base e enc n w v xs) (hk : EncOk enc n) : Sl enc n w v xs := by
  obtain ⟨hl, h⟩ := h
  rcases h with ⟨rfl, h0⟩ | ⟨g, cap, cur, rfl, hb, hg, hle, hm, hs, ht⟩
  · obtain rfl : xs = [] := List.eq_nil_of_length_eq_zero h0
    exact Sl.nil _ _ _
  · refine ⟨some ⟨g, 0, none⟩, cap, rfl, hle, hm, fun h0 => ⟨g, 0, rfl, (Array.getElem?_eq_some_iff.1 hg).1, fun i hi => ?_⟩⟩
    rw [row_block hg]
    have hin : i * n + n ≤ xs.length * n := by rw [← Nat.succ_mul]; exact Nat.mul_le_mul_right n hi
    have hcn : xs.length * n ≤ cap * n := Nat.mul_le_mul_right n hle
    unfold rowOf
    rw [if_pos (by omega)]
    congr 1
    apply Array.ext_getElem?
    intro k
    rw [Array.getElem?_extract]
    by_cases hk' : k < n
    · rw [if_pos (by omega), ← flat_get hk xs i k hi hk', ← ht, List.getElem?_take, if_pos (by omega)]
      rw [Array.getElem?_toList]; congr 1; omega
    · have := hk.size xs[i]
      rw [if_neg (by omega), Array.getElem?_eq_none (by omega)]
theorem Own.blocks (h : Own base e enc n w v xs) : ∀ k, v.ownBlock = some k → base ≤ k ∧ k < w.heap.size := World.ownsRow.lt h
theorem Own.kept {row : Option Nat} (h : Own base e enc n w v xs) (hg : w.grownBy w' row) (hne : v.ownBlock = none ∨ v.ownBlock ≠ row) : Own base e enc n w' v xs := World.ownsRow.kept h hg hne
theorem Own.ext (h : Own base e enc n w v xs) (he : Ext w w') : Own base e enc n w' v xs :=
  h.kept (row := none) ⟨he.os, he.tape, he.output, he.size, fun k hk _ => he.block k hk⟩ (by cases hv : v.ownBlock <;> simp)
theorem Own.alloc (h : Own base e enc n w v xs) (o : Obj) : Own base e enc n (w.alloc o) v xs := World.ownsRow.alloc h o
theorem Own.drew (h : Own base e enc n w v xs) : Own base e enc n w.drew v xs := h
theorem Own.drewN (h : Own base e enc n w v xs) (k : Nat) : Own base e enc n (w.drewN k) v xs := h
theorem Own.le {base' : Nat} (h : Own base e enc n w v xs) (hb : base' ≤ base) : Own base' e enc n w v xs := by
  obtain ⟨h1, h2⟩ := h
  refine ⟨h1, ?_⟩
  rcases h2 with h2 | ⟨g, cap, cur, hv, hg, r⟩
  · exact .inl h2
  · exact .inr ⟨g, cap, cur, hv, Nat.le_trans hb hg, r⟩
theorem Own.form (h : Own base e enc n w v xs) (h0 : 0 < xs.length) : ∃ g cap cur, v = .slice (some ⟨g, 0, none⟩) xs.length cap ∧ base ≤ g ∧ w.heap[g]? = some (.cells cur e (0, 0)) ∧ xs.length ≤ cap ∧ cap ≤ maxLen ∧ cur.size = cap * n ∧ cur.toList.take (xs.length * n) = flat enc xs := by
  rcases h.2 with ⟨_, h1⟩ | h2
  · omega
  · exact h2
theorem Own.value (h : Own base e enc n w v xs) : ∃ A cap, v = .slice A xs.length cap ∧ xs.length ≤ cap ∧ cap ≤ maxLen := by
  rcases h.2 with ⟨rfl, h1⟩ | ⟨g, cap, cur, rfl, _, _, h3, h4, _⟩
  · exact ⟨none, 0, by rw [h1], by omega, by unfold maxLen; omega⟩
  · exact ⟨_, _, rfl, h3, h4⟩
theorem Ext.grown {a : World} {row : Option Nat} (h : Ext a w) (hg : w.grownBy w' row) (hr : ∀ k, row = some k → a.heap.size ≤ k) : Ext a w' := Below.grown h hg h.size hr
theorem Ext.append {a : World} (h : Ext a w) (hg : w.grownBy w' v.ownBlock) (ho : Own base e enc n w v xs) (hb : a.heap.size ≤ base) : Ext a w' :=
  h.grown hg fun k hk => Nat.le_trans hb (ho.blocks k hk).1
end

section
variable {α : Type} {base : Nat} {t e : TypeId} {enc : α → Array Value} {n bytes : Nat} {v y : Value} {xs ys : List α} {P : Program}
theorem run_append_nil_src (w : World) (ty : TypeId) (hT : SlT P t e n bytes) (hown : Own base e enc n w v xs) (c : Nat) : (Builtin.append_ #[t, t] ty #[v, .slice none 0 c]).run P w = .ok v w := by
  obtain ⟨ht, i, z, hi, hz, hs, hb, hzs⟩ := hT
  rcases hown.2 with ⟨rfl, h0⟩ | ⟨g, cap, cur, rfl, _, _, hnc, _⟩
  · simp [Builtin.append_, run_underlying ht, sizeOf, typeInfo, hi, Builtin.lenOf, Builtin.firstCells]
  · simp [Builtin.append_, run_underlying ht, sizeOf, typeInfo, hi, Builtin.lenOf, Builtin.firstCells, hnc, storeCells]
/-- append: what is there behind it -/
theorem run_append_sl (w : World) (ty : TypeId) (hT : SlT P t e n bytes) (hk : EncOk enc n) (hown : Own base e enc n w v xs) (hsl : Sl enc n w y ys)
    (h63 : xs.length + ys.length ≤ maxLen) (hbytes : (xs.length + ys.length) * bytes ≤ 140737488355328) (hbase : base ≤ w.heap.size) :
    ∃ v' w', (Builtin.append_ #[t, t] ty #[v, y]).run P w = .ok v' w' ∧ Own base e enc n w' v' (xs ++ ys) ∧ w.grownBy w' v.ownBlock ∧ (v'.ownBlock = v.ownBlock ∨ v'.ownBlock = some w.heap.size) := by
  obtain ⟨A, c, rfl, h1, h2, hA⟩ := hsl
  have hT' := hT
  obtain ⟨ht, i, z, hi, hz, hs, hb, hzs⟩ := hT
  by_cases h0 : ys.length = 0
  · obtain rfl : ys = [] := List.eq_nil_of_length_eq_zero h0
    cases A with
    | none =>
      exact ⟨v, w, run_append_nil_src w ty hT' hown c, by simpa using hown, World.grownBy.refl w _, .inl rfl⟩
    | some ad =>
      obtain ⟨v', w', hr, h3, h4, _, h5⟩ := run_append_own_at (P := P) w base t ty e i z n bytes ht hi hz hs hb hzs hk.pos v xs.length (flat enc xs) hown ad 0 c [] (by simp) (by simp) (by simp) (by simpa using h63) (by simpa using hbytes) hbase
      exact ⟨v', w', hr, by simpa [Own] using h3, h4, h5⟩
  · obtain ⟨b, off, rfl, _, hr⟩ := hA (by omega)
    obtain ⟨v', w', hr, h3, h4, _, h5⟩ := run_append_own_at (P := P) w base t ty e i z n bytes ht hi hz hs hb hzs hk.pos v xs.length (flat enc xs) hown ⟨b, off, none⟩ ys.length c (flat enc ys) (flat_length hk ys) (Sl.news hk hr) (flat_one hk ys) h63 hbytes hbase
    exact ⟨v', w', hr, by unfold Own; rw [flat_append, List.length_append]; exact h3, h4, h5⟩
theorem wp_append_sl {w : World} {o : Oper} {a : Act} {K : Act → World → Prop} {Q : Exit → Act → World → Prop} (s x : Operand)
    (ho : o.op = .call { callee := .builtin .append, args := #[s, x], argTypes := #[t, t] }) (hT : SlT P t e n bytes) (hk : EncOk enc n) (hs : a.eval s = v) (hx : a.eval x = y) (hown : Own base e enc n w v xs) (hsl : Sl enc n w y ys)
    (h63 : xs.length + ys.length ≤ maxLen) (hbytes : (xs.length + ys.length) * bytes ≤ 140737488355328) (hbase : base ≤ w.heap.size)
    (h : ∀ v' w', Own base e enc n w' v' (xs ++ ys) → w.grownBy w' v.ownBlock → (v'.ownBlock = v.ownBlock ∨ v'.ownBlock = some w.heap.size) → K (a.put o.dst v') w') : o.wp P a w K Q := by
  obtain ⟨v', w', hr, h2, h3, h4⟩ := run_append_sl (P := P) w o.type hT hk hown hsl h63 hbytes hbase
  unfold Oper.wp execOp
  simp only [ho, resolve, invoke, builtin, Sem.run_bind, Sem.run_pure, Result.andThen_ok, List.map_toArray, List.map_cons, List.map_nil, hs, hx, hr]
  exact h v' w' h2 h3 h4
theorem wpList_append_sl {w : World} {ops : Array Oper} {rest : List Oper} {o : Oper} {a : Act} {Q : Exit → Act → World → Prop} (hgd : o.guard = none) (s x : Operand)
    (ho : o.op = .call { callee := .builtin .append, args := #[s, x], argTypes := #[t, t] }) (hT : SlT P t e n bytes) (hk : EncOk enc n) (hs : a.eval s = v) (hx : a.eval x = y) (hown : Own base e enc n w v xs) (hsl : Sl enc n w y ys)
    (h63 : xs.length + ys.length ≤ maxLen) (hbytes : (xs.length + ys.length) * bytes ≤ 140737488355328) (hbase : base ≤ w.heap.size)
    (h : ∀ v' w', Own base e enc n w' v' (xs ++ ys) → w.grownBy w' v.ownBlock → (v'.ownBlock = v.ownBlock ∨ v'.ownBlock = some w.heap.size) → wpList P ops Q rest (a.put o.dst v') w') : wpList P ops Q (o :: rest) a w :=
  wpList_plain hgd fun _ hK => wp_append_sl s x ho hT hk hs hx hown hsl h63 hbytes hbase fun v' w' h2 h3 h4 => hK _ _ (h v' w' h2 h3 h4)
/-- at a step of a region that draws its order -/
theorem step_append_sl {w : World} {ops : Array Oper} {o : Oper} {a : Act} {K : Act → World → Prop} {Q : Exit → Act → World → Prop} {E : Prop} (hgd : o.guard = none) (s x : Operand)
    (ho : o.op = .call { callee := .builtin .append, args := #[s, x], argTypes := #[t, t] }) (hT : SlT P t e n bytes) (hk : EncOk enc n) (hs : a.eval s = v) (hx : a.eval x = y) (hown : Own base e enc n w v xs) (hsl : Sl enc n w y ys)
    (h63 : xs.length + ys.length ≤ maxLen) (hbytes : (xs.length + ys.length) * bytes ≤ 140737488355328) (hbase : base ≤ w.heap.size)
    (h : ∀ v' w', Own base e enc n w' v' (xs ++ ys) → w.grownBy w' v.ownBlock → (v'.ownBlock = v.ownBlock ∨ v'.ownBlock = some w.heap.size) → K (a.put o.dst v') w') :
    if Region.wanted o (yielded ops a.tmps) = true then Oper.wp P o a w K Q else E := by
  have hw : Region.wanted o (yielded ops a.tmps) = true := by simp [Region.wanted, hgd]
  rw [if_pos hw]
  exact wp_append_sl s x ho hT hk hs hx hown hsl h63 hbytes hbase h
end

theorem zeroCells_flat {α : Type} {enc : α → Array Value} {n : Nat} (hk : EncOk enc n) {x0 : α} {z : Value} (hz : enc x0 = z.cells) (k : Nat) : (Builtin.zeroCells z.cells k).toList = flat enc (List.replicate k x0) := by
  have hzs : z.cells.size = n := by rw [← hz]; exact hk.size x0
  apply List.ext_getElem?
  intro j
  have hn := hk.pos
  by_cases hj : j < k * n
  · have hi : j / n < k := (Nat.div_lt_iff_lt_mul hn).2 hj
    have hm : j % n < n := Nat.mod_lt _ hn
    have hd : j / n * n + j % n = j := by rw [Nat.mul_comm]; exact Nat.div_add_mod j n
    have h1 := flat_get hk (List.replicate k x0) (j / n) (j % n) (by simpa using hi) hm
    rw [hd] at h1
    rw [h1, List.getElem_replicate, hz]
    simp [Builtin.zeroCells, hzs, hj, hm]
  · rw [List.getElem?_eq_none (by simp [Builtin.zeroCells, hzs]; omega), List.getElem?_eq_none (by rw [flat_length hk]; simp; omega)]
theorem run_append_zeros {α : Type} {base : Nat} {t tn e : TypeId} {enc : α → Array Value} {n bytes : Nat} {v : Value} {xs : List α} {x0 : α} {P : Program} (w : World) (ty : TypeId) (ht : P.underlying t = some (.slice e)) (htn : P.underlying tn = some (.int .i64)) (hi : ∃ i z, P.info? e = some i ∧ i.zero = some z ∧ i.size = n ∧ i.bytes = bytes ∧ enc x0 = z.cells)
    (hk : EncOk enc n) (hown : Own base e enc n w v xs) (k : Nat) (h63 : xs.length + k ≤ maxLen) (hbytes : (xs.length + k) * bytes ≤ 140737488355328) (hbase : base ≤ w.heap.size) :
    ∃ v' w', (Builtin.append_ #[t, tn] ty #[v, .int .i64 (k : Int)]).run P w = .ok v' w' ∧ Own base e enc n w' v' (xs ++ List.replicate k x0) ∧ w.grownBy w' v.ownBlock := by
  obtain ⟨i, z, hi, hz, hs, hb, hz0⟩ := hi
  have hzf := zeroCells_flat hk hz0
  have hzs : z.cells.size = n := by rw [← hz0]; exact hk.size x0
  have hkb : k * bytes ≤ (xs.length + k) * bytes := Nat.mul_le_mul_right _ (by omega)
  have hm63 : maxLen = 9223372036854775807 := by unfold maxLen; rfl
  have hn := hk.pos
  have hwk : IntKind.i64.wrap (k : Int) = k := by rw [IntKind.wrap_i64]; omega
  have h48i : ¬ (281474976710656 < (k : Int) * (i.bytes : Int)) := by rw [← Int.natCast_mul, hb]; omega
  have hneg : ¬ ((k : Int) < 0) := by omega
  by_cases hk0 : k = 0
  · subst hk0
    refine ⟨v, w, ?_, by simpa using hown, World.grownBy.refl w _⟩
    rcases hown.2 with ⟨rfl, h0⟩ | ⟨g, cap, cur, rfl, _, _, hnc, _⟩
    · simp [Builtin.append_, run_underlying ht, run_underlying htn, sizeOf, typeInfo, hi, asInt, asIntOf, IntKind.wrap_i64]
    · simp [Builtin.append_, run_underlying ht, run_underlying htn, sizeOf, typeInfo, hi, asInt, asIntOf, IntKind.wrap_i64, hnc, storeCells]
  · rcases hown.2 with ⟨rfl, h0⟩ | ⟨g, cap, cur, rfl, hbg, hg, hnc, hcm, hcs, htake⟩
    · obtain rfl : xs = [] := List.eq_nil_of_length_eq_zero h0
      have hr := Lib.run_append_nil_zeros (P := P) w t tn ty e i z .i64 .i64 ht htn hi hz k (by omega) (by omega) (by omega) (by rw [hb]; omega)
      refine ⟨_, _, hr, ⟨by rw [flat_length hk], .inr ⟨w.heap.size, grownCap w k 0 e, _, by simp, hbase, heap_alloc_new w.drew _, ?_, ?_, ?_, ?_⟩⟩, ⟨rfl, rfl, rfl, by simp, fun j hj _ => heap_old w.drew _ j hj⟩⟩
      · simpa using grownCap_ge w k 0 e
      · exact grownCap_le_maxLen w k 0 e (by omega)
      · have := grownCap_ge w k 0 e
        simp only [Array.size_append, size_zeroCells, hzs, ← Nat.add_mul]
        congr 1; omega
      · simp only [Array.toList_append, hzf, List.nil_append, List.length_replicate]
        rw [← flat_append, List.replicate_append_replicate]
        have h1 : k + (grownCap w k 0 e - k) = grownCap w k 0 e := by have := grownCap_ge w k 0 e; omega
        rw [h1]
        have h2 : flat enc (List.replicate (grownCap w k 0 e) x0) = flat enc (List.replicate k x0) ++ flat enc (List.replicate (grownCap w k 0 e - k) x0) := by rw [← flat_append, List.replicate_append_replicate, h1]
        rw [h2]
        have h3 : k * n = (flat enc (List.replicate k x0)).length := by rw [flat_length hk, List.length_replicate]
        rw [h3]; exact List.take_left
    · have hlf := flat_length hk xs
      by_cases hroom : xs.length + k ≤ cap
      · have hfit : xs.length * n + k * n ≤ cur.size := by rw [hcs, ← Nat.add_mul]; exact Nat.mul_le_mul_right _ hroom
        have hst := run_storeCells_at (P := P) g (xs.length * n) e (flat enc (List.replicate k x0)) 0 cur w hg (by rw [flat_length hk, List.length_replicate]; omega) (flat_one hk _)
        have hns : ¬ (k * n = 0) := Nat.mul_ne_zero hk0 (by omega)
        have hzl : (Builtin.zeroCells z.cells k).toList = flat enc (List.replicate k x0) := hzf k
        have hadd : ∀ m, (⟨g, 0, none⟩ : Addr).add m = ⟨g, m, none⟩ := by intro m; unfold Addr.add; split <;> simp_all
        have hr : (Builtin.append_ #[t, tn] ty #[.slice (some ⟨g, 0, none⟩) xs.length cap, .int .i64 (k : Int)]).run P w = .ok (.slice (some ⟨g, 0, none⟩) (xs.length + k) cap) (w.setRow g (cur.toList.take (xs.length * n + 0) ++ flat enc (List.replicate k x0) ++ cur.toList.drop (xs.length * n + 0 + (flat enc (List.replicate k x0)).length)).toArray) := by
          simp [Builtin.append_, run_underlying ht, run_underlying htn, sizeOf, typeInfo, zeroValue, hi, hz, asInt, asIntOf, hwk, hneg, h48i, hns, hroom, hs, hzl, hadd] at hst ⊢
          simp [hst]
        refine ⟨_, _, hr, ⟨by rw [flat_length hk], .inr ⟨g, cap, _, by simp, hbg, setRow_heap w g cur _ e _ hg, by simpa using hroom, hcm, ?_, ?_⟩⟩, ⟨rfl, rfl, rfl, by simp, fun j hj hne => setRow_other w g j _ (fun e => hne (by simp [Value.ownBlock, e]))⟩⟩
        · simp only [List.size_toArray, List.length_append, List.length_take, List.length_drop, Array.length_toList, flat_length hk, List.length_replicate]
          omega
        · rw [flat_append, ← htake, Nat.add_zero, List.length_append, List.length_replicate, Nat.add_mul]
          have h3 : xs.length * n + k * n = (cur.toList.take (xs.length * n) ++ flat enc (List.replicate k x0)).length := by rw [htake, List.length_append, flat_length hk, flat_length hk, List.length_replicate]
          rw [h3]
          exact List.take_left
      · have hge := grownCap_ge w (xs.length + k) cap e
        have hold : (Builtin.firstCells i.size xs.length (.slice (some ⟨g, 0, none⟩) xs.length cap)).run P w.drew = .ok (flat enc xs).toArray w.drew :=
          run_firstCells_some (P := P) w.drew i.size xs.length ⟨g, 0, none⟩ xs.length cap (flat enc xs) (by rw [hs]; exact hlf) (by simpa using World.ownsRow.cells hown (g := g) rfl)
        have hr := Lib.run_append_grow_zeros (P := P) w t tn ty e i z .i64 .i64 ht htn hi hz (some ⟨g, 0, none⟩) xs.length cap (flat enc xs) hold k (by omega) (by omega) (by omega) (by omega) (by rw [hb]; omega) (growslice_fits (by omega) (by rw [hb]; exact hbytes))
        refine ⟨_, _, hr, ⟨by rw [flat_length hk], .inr ⟨w.heap.size, grownCap w (xs.length + k) cap e, _, by simp, hbase, heap_alloc_new w.drew _, by simpa using hge, grownCap_le_maxLen w _ cap e h63, ?_, ?_⟩⟩, ⟨rfl, rfl, rfl, by simp, fun j hj _ => heap_old w.drew _ j hj⟩⟩
        · simp only [Array.size_append, List.size_toArray, size_zeroCells, hzs, hlf, ← Nat.add_mul]
          congr 1; omega
        · simp only [Array.toList_append, hzf, List.length_append, List.length_replicate]
          rw [flat_append]
          have h3 : (xs.length + k) * n = (flat enc xs ++ flat enc (List.replicate k x0)).length := by rw [List.length_append, flat_length hk, flat_length hk, List.length_replicate, Nat.add_mul]
          rw [h3]
          exact List.take_left

/-! ### a store into a slice of the call's own, whose elements are one cell -/
theorem Own.set {α : Type} {base : Nat} {e : TypeId} {enc : α → Array Value} {w : World} {v : Value} {xs : List α} (hk : EncOk enc 1) (h : Own base e enc 1 w v xs) {g cap : Nat} (hv : v = .slice (some ⟨g, 0, none⟩) xs.length cap) (i : Nat) (hi : i < xs.length) (x : α) (u : Value) (hu : enc x = #[u]) :
    Own base e enc 1 (w.setCell ⟨g, i, none⟩ u) v (xs.set i x) := by
  obtain ⟨g', cap', cur, hv', hb, hg, h1, h2, h3, h4⟩ := h.form (by omega)
  rw [hv] at hv'
  injection hv' with e1 _ e3
  injection e1 with e1
  injection e1 with e1
  subst e1 e3
  refine ⟨?_, .inr ⟨g, cap, cur.setIfInBounds i u, by rw [hv, List.length_set], hb, ?_, by rw [List.length_set]; exact h1, h2, by simpa using h3, ?_⟩⟩
  · rw [flat_length hk]
  · exact heap_setCell_same w g i cur e u hg
  · have hl := flat_length hk xs
    apply List.ext_getElem?
    intro k
    rw [List.length_set, List.getElem?_take]
    by_cases hkl : k < xs.length
    · have e1 := flat_get hk (xs.set i x) k 0 (by simpa using hkl) (by omega)
      have e2 := flat_get hk xs k 0 hkl (by omega)
      rw [Nat.mul_one, Nat.add_zero] at e1 e2
      rw [if_pos (by omega), e1, Array.getElem?_toList, Array.getElem?_setIfInBounds]
      by_cases hik : i = k
      · subst hik
        have hcs : i < cur.size := by omega
        rw [if_pos rfl, if_pos hcs]
        simp [hu]
      · rw [if_neg hik, List.getElem_set_ne hik, ← e2, ← h4, List.getElem?_take, if_pos (by omega), Array.getElem?_toList]
    · rw [if_neg (by omega), List.getElem?_eq_none (by rw [flat_length hk]; simp; omega)]
theorem Own.open1 {α : Type} {base : Nat} {e : TypeId} {enc : α → Array Value} {w : World} {v : Value} {xs : List α} (hk : EncOk enc 1) (h : Own base e enc 1 w v xs) (h0 : 0 < xs.length) :
    ∃ g cap, v = .slice (some ⟨g, 0, none⟩) xs.length cap ∧ base ≤ g ∧ g < w.heap.size ∧ xs.length ≤ cap ∧ cap ≤ maxLen ∧ ∀ i (hi : i < xs.length) u, enc xs[i] = #[u] → w.cell? ⟨g, i, none⟩ = some u ∧ w.frozen? ⟨g, i, none⟩ = false := by
  obtain ⟨g, cap, cur, hv, hb, hg, h1, h2, h3, h4⟩ := h.form h0
  refine ⟨g, cap, hv, hb, (Array.getElem?_eq_some_iff.1 hg).1, h1, h2, fun i hi u hu => ⟨?_, frozen_of_row w g i cur e hg⟩⟩
  rw [cell_of_row w g i cur e (0, 0) hg]
  have e2 := flat_get hk xs i 0 hi (by omega)
  rw [Nat.mul_one, Nat.add_zero, ← h4, List.getElem?_take, if_pos (by omega), Array.getElem?_toList] at e2
  rw [e2, hu]; rfl
end Go.Proofs.Ytphojngdgmnpaaa

namespace Go.Proofs.Ytphojngdgmnpaaa
open Go Go.RowKit
set_option linter.unusedVariables false
set_option linter.unusedSimpArgs false
set_option maxRecDepth 100000

/-- how a row of the function's own is seen: whole, a place in it, a part of it -/
inductive OwnK where
  | row
  | at (off : Nat) (p : List Nat)
  | part (off l : Nat)
/-- what a value reads as -/
inductive AV where
  | v (x : Value)
  | agg (n : Nat) (fs : List AV)
  | arr (m n : Nat) (xs : List AV)
  | ptr (g off : Nat) (p : List Nat)
  | ref (x : AV)
  | sl (tok : Option Nat) (n : Nat) (xs : List AV)
  | seg (g off n : Nat) (p : List Nat) (len cap : Nat)
  | tup (vs : List AV)
  | fn (f : Fn) (first caps : List AV)
  | ifc (t : TypeId) (x : AV)
  | own (g n len : Nat) (k : OwnK)
  deriving Inhabited
/-- a block of the function's own -/
inductive Bx where
  | var (x : AV)
  | froz (x : AV)
  | tail (e : TypeId) (n k : Nat)
  | own (e : TypeId) (n : Nat) (xs : List AV)

/-- a value of one cell that bears no address -/
def plain : Value → Bool
  | .bool _ | .int _ _ | .string _ | .float _ _ => true
  | .pointer none | .slice none 0 0 | .map _ | .nilFunc | .nilIface => true
  | _ => false
theorem plain_one : ∀ {x : Value}, plain x = true → x.oneCell' = true
  | .bool _, _ | .int _ _, _ | .string _, _ | .float _ _, _ | .pointer _, _ | .slice _ _ _, _ | .map _, _ | .nilFunc, _ | .nilIface, _ => rfl
  | .agg _, h | .tuple _, h => by simp [plain] at h
  | .complex _ _ _, h | .chan _, h | .func _ _ _, h | .iface _ _, h => by simp [plain] at h

abbrev Blk := Nat → Option Nat
abbrev Hp := Nat → Option Bx
abbrev Uns := Nat → Nat → Prop
def B0 : Blk := fun _ => none
def H0 : Hp := fun _ => none
def isVar : Option Bx → Bool
  | some (.var _) => true
  | some (.froz _) => true
  | _ => false
/-- cells that nobody will write -/
def Quiet (U : Uns) (b off n : Nat) : Prop := ∀ o, off ≤ o → o < off + n → ¬ U b o
def pack : AV → List Value → Value
  | .agg _ _, cs => .agg cs.toArray
  | .arr _ _ _, cs => .agg cs.toArray
  | _, [c] => c
  | _, _ => undef
/-- a slice that may be appended to: the row's block, if it has one, is the slice's -/
def TokOk (w : World) (B : Blk) (H : Hp) (t n len : Nat) (A : Option Addr) (cap : Nat) : Prop :=
  ∃ e k, H t = some (.tail e n k) ∧ len ≤ k ∧ (len = k → (B t = none → A = none ∧ cap = 0) ∧ ∀ b, B t = some b → A = some ⟨b, 0, none⟩ ∧ ∃ cur, w.heap[b]? = some (.cells cur e (0, 0)) ∧ cur.size = cap * n)

/-- a view of an own row, of the version of so many elements: of a later one it says nothing -/
def OwnOk (w : World) (B : Blk) (H : Hp) (g n len : Nat) (k : OwnK) (v : Value) : Prop :=
  ∃ e xs, H g = some (.own e n xs) ∧ len ≤ xs.length ∧ v.oneCell' = true ∧ (len = xs.length → (B g = none → v = .slice none 0 0) ∧ ∀ b, B g = some b → ∃ cur, w.heap[b]? = some (.cells cur e (0, 0)) ∧ match k with
    | .row => ∃ cap, v = .slice (some ⟨b, 0, none⟩) len cap ∧ len ≤ cap ∧ cap ≤ maxLen ∧ cur.size = cap * n
    | .at off _ => v = .pointer (some ⟨b, off, none⟩)
    | .part off l => ∃ cap, v = .slice (some ⟨b, off * n, none⟩) l cap ∧ off + l ≤ len ∧ l ≤ cap ∧ cap ≤ maxLen)
mutual
def Rd (U : Uns) (w : World) : AV → Blk → Hp → List Value → Prop
  | .v x, _, _, cs => plain x = true ∧ cs = [x]
  | .agg n fs, B, H, cs => cs.length = n ∧ Rds U w fs B H cs
  | .arr m n xs, _, _, cs => cs.length = m ∧ Rdu U w n xs B0 H0 cs
  | .ptr g off _, B, H, cs => isVar (H g) = true ∧ ∃ b, B g = some b ∧ cs = [.pointer (some ⟨b, off, none⟩)]
  | .ref x, _, _, cs => ∃ b off c, cs = [.pointer (some ⟨b, off, none⟩)] ∧ row? w b off c.length = some c.toArray ∧ Quiet U b off c.length ∧ Rd U w x B0 H0 c
  | .sl tok n xs, B, H, cs => ∃ A cap, cs = [.slice A xs.length cap] ∧ xs.length ≤ cap ∧ cap ≤ maxLen ∧
      (0 < xs.length → ∃ b off c, A = some ⟨b, off, none⟩ ∧ row? w b off (xs.length * n) = some c.toArray ∧ Quiet U b off (xs.length * n) ∧ Rdu U w n xs B0 H0 c) ∧
      ∀ t, tok = some t → TokOk w B H t n xs.length A cap
  | .seg g off n _ len cap, B, H, cs => isVar (H g) = true ∧ ∃ b, B g = some b ∧ cap ≤ maxLen ∧ len ≤ cap ∧ cs = [.slice (some ⟨b, off, none⟩) len cap]
  | .tup _, _, _, _ => False
  | .fn f first caps, B, H, cs => ∃ c1 c2, cs = [.func f c1.toArray c2.toArray] ∧ Rdp U w first B H c1 ∧ Rdp U w caps B H c2
  | .ifc t x, B, H, cs => ∃ c, Rd U w x B H c ∧ cs = [.iface t (pack x c)]
  | .own g n len k, B, H, cs => ∃ v, OwnOk w B H g n len k v ∧ cs = [v]
/-- one behind the other -/
def Rds (U : Uns) (w : World) : List AV → Blk → Hp → List Value → Prop
  | [], _, _, cs => cs = []
  | x :: xs, B, H, cs => ∃ c1 c2, cs = c1 ++ c2 ∧ Rd U w x B H c1 ∧ Rds U w xs B H c2
/-- one behind the other, each of n cells -/
def Rdu (U : Uns) (w : World) (n : Nat) : List AV → Blk → Hp → List Value → Prop
  | [], _, _, cs => cs = []
  | x :: xs, B, H, cs => ∃ c1 c2, cs = c1 ++ c2 ∧ c1.length = n ∧ Rd U w x B H c1 ∧ Rdu U w n xs B H c2
/-- values, each whole -/
def Rdp (U : Uns) (w : World) : List AV → Blk → Hp → List Value → Prop
  | [], _, _, vs => vs = []
  | x :: xs, B, H, vs => ∃ c vs', vs = pack x c :: vs' ∧ Rd U w x B H c ∧ Rdp U w xs B H vs'
end

/-- what a slot's value reads as -/
def Rdv (U : Uns) (w : World) (B : Blk) (H : Hp) : AV → Value → Prop
  | .tup xs, v => ∃ vs, v = .tuple vs.toArray ∧ Rdp U w xs B H vs
  | x, v => ∃ c, Rd U w x B H c ∧ v = pack x c

/-- of what is not unsteady nothing turns -/
structure Evo (U : Uns) (w w' : World) : Prop where
  size : w.heap.size ≤ w'.heap.size
  cell : ∀ b cs t fr, w.heap[b]? = some (.cells cs t fr) → ∃ cs', w'.heap[b]? = some (.cells cs' t fr) ∧ cs'.size = cs.size ∧ ∀ o, ¬ U b o → cs'[o]? = cs[o]?
theorem Evo.refl (U : Uns) (w : World) : Evo U w w := ⟨Nat.le_refl _, fun b cs t fr h => ⟨cs, h, rfl, fun _ _ => rfl⟩⟩
theorem Evo.trans {U : Uns} {w w' w'' : World} (e : Evo U w w') (f : Evo U w' w'') : Evo U w w'' := ⟨Nat.le_trans e.size f.size, fun b cs t fr h => by
  obtain ⟨c1, h1, h2, h3⟩ := e.cell b cs t fr h
  obtain ⟨c2, k1, k2, k3⟩ := f.cell b c1 t fr h1
  exact ⟨c2, k1, k2.trans h2, fun o ho => (k3 o ho).trans (h3 o ho)⟩⟩
theorem Evo.row {U : Uns} {w w' : World} (e : Evo U w w') {b off n : Nat} {c : Array Value} (h : row? w b off n = some c) (q : Quiet U b off n) : row? w' b off n = some c := by
  unfold row? at h
  split at h
  · rename_i cs t fr hb
    obtain ⟨cs', hb', hs, hc⟩ := e.cell b cs t fr hb
    rw [row_block hb']
    obtain ⟨h1, h2, h3⟩ := rowOf_spec h
    unfold rowOf
    rw [if_pos (by omega)]
    congr 1
    apply Array.ext_getElem?
    intro k
    rw [Array.getElem?_extract]
    by_cases hk : k < n
    · rw [if_pos (by omega), hc _ (q _ (by omega) (by omega))]
      exact h3 k hk
    · rw [if_neg (by omega), Array.getElem?_eq_none (by omega)]
  · cases h
theorem Evo.ofExt {U : Uns} {w w' : World} (e : Ext w w') : Evo U w w' := ⟨e.size, fun b cs t fr h => ⟨cs, e.heap h, rfl, fun _ _ => rfl⟩⟩

/-- how the memory's picture may go on -/
structure Pic (w w' : World) (B B' : Blk) (H H' : Hp) : Prop where
  blk : ∀ g b, isVar (H g) = true → B g = some b → B' g = some b
  dom : ∀ g, isVar (H g) = true → isVar (H' g) = true
  tok : ∀ t n len A cap, TokOk w B H t n len A cap → TokOk w' B' H' t n len A cap
  own : ∀ g n len k v, OwnOk w B H g n len k v → OwnOk w' B' H' g n len k v
theorem ownPic {U : Uns} {w w' : World} {B B' : Blk} {H H' : Hp} (evo : Evo U w w') (h : ∀ g e n xs, H g = some (.own e n xs) → H' g = some (.own e n xs) ∧ B' g = B g) : ∀ g n len k v, OwnOk w B H g n len k v → OwnOk w' B' H' g n len k v := by
  rintro g n len k v ⟨e, xs, h1, h2, h3, h4⟩
  obtain ⟨k1, k2⟩ := h g e n xs h1
  refine ⟨e, xs, k1, h2, h3, fun hl => ⟨fun hn => (h4 hl).1 (k2 ▸ hn), fun b hb => ?_⟩⟩
  obtain ⟨cur, m1, m2⟩ := (h4 hl).2 b (k2 ▸ hb)
  obtain ⟨cs', c1, c2, _⟩ := evo.cell b cur e (0, 0) m1
  refine ⟨cs', c1, ?_⟩
  cases k with
  | row => obtain ⟨cap, q1, q2, q3, q4⟩ := m2; exact ⟨cap, q1, q2, q3, c2.trans q4⟩
  | _ => exact m2
theorem Pic.refl0 (w w' : World) : Pic w w' B0 B0 H0 H0 := ⟨fun _ _ _ h => h, fun _ h => h, fun t n len A cap h => (by obtain ⟨e, k, h, _⟩ := h; cases h), fun g n len k v h => (by obtain ⟨e, xs, h, _⟩ := h; cases h)⟩

section
variable {U U' : Uns} {w w' : World}
theorem quiet_sub (hU : ∀ b o, b < w.heap.size → U' b o → U b o) {b off n : Nat} {c : Array Value} (h : row? w b off n = some c) (q : Quiet U b off n) : Quiet U' b off n :=
  fun o h1 h2 h3 => q o h1 h2 (hU b o (row_lt h) h3)
mutual
theorem Rd_go (e : Evo U w w') (hU : ∀ b o, b < w.heap.size → U' b o → U b o) : ∀ (x : AV) {B B' : Blk} {H H' : Hp} (_ : Pic w w' B B' H H') {cs : List Value}, Rd U w x B H cs → Rd U' w' x B' H' cs
  | .v x, _, _, _, _, _, _, h => by simpa [Rd] using h
  | .agg n fs, _, _, _, _, p, _, h => by
    simp only [Rd] at h ⊢
    exact ⟨h.1, Rds_go e hU fs p h.2⟩
  | .arr m n xs, _, _, _, _, p, _, h => by
    simp only [Rd] at h ⊢
    exact ⟨h.1, Rdu_go e hU n xs (Pic.refl0 w w') h.2⟩
  | .ptr g off _, _, _, _, _, p, _, h => by
    simp only [Rd] at h ⊢
    obtain ⟨h0, b, h1, h2⟩ := h
    exact ⟨p.dom g h0, b, p.blk g b h0 h1, h2⟩
  | .ref x, _, _, _, _, _, _, h => by
    simp only [Rd] at h ⊢
    obtain ⟨b, off, c, h1, h2, h3, h4⟩ := h
    exact ⟨b, off, c, h1, e.row h2 h3, quiet_sub hU h2 h3, Rd_go e hU x (Pic.refl0 w w') h4⟩
  | .sl tok n xs, _, _, _, _, p, _, h => by
    simp only [Rd] at h ⊢
    obtain ⟨A, cap, h1, h2, h3, h4, h5⟩ := h
    refine ⟨A, cap, h1, h2, h3, fun h0 => ?_, fun t ht => p.tok _ _ _ _ _ (h5 t ht)⟩
    obtain ⟨b, off, c, k1, k2, k3, k4⟩ := h4 h0
    exact ⟨b, off, c, k1, e.row k2 k3, quiet_sub hU k2 k3, Rdu_go e hU n xs (Pic.refl0 w w') k4⟩
  | .seg g off n _ len cap, _, _, _, _, p, _, h => by
    simp only [Rd] at h ⊢
    obtain ⟨h0, b, h1, h2⟩ := h
    exact ⟨p.dom g h0, b, p.blk g b h0 h1, h2⟩
  | .tup _, _, _, _, _, _, _, h => by simp [Rd] at h
  | .fn f first caps, _, _, _, _, p, _, h => by
    simp only [Rd] at h ⊢
    obtain ⟨c1, c2, h1, h2, h3⟩ := h
    exact ⟨c1, c2, h1, Rdp_go e hU first p h2, Rdp_go e hU caps p h3⟩
  | .ifc t x, _, _, _, _, p, _, h => by
    simp only [Rd] at h ⊢
    obtain ⟨c, h1, h2⟩ := h
    exact ⟨c, Rd_go e hU x p h1, h2⟩
  | .own g n len k, _, _, _, _, p, _, h => by
    simp only [Rd] at h ⊢
    obtain ⟨v, h1, h2⟩ := h
    exact ⟨v, p.own _ _ _ _ _ h1, h2⟩
theorem Rds_go (e : Evo U w w') (hU : ∀ b o, b < w.heap.size → U' b o → U b o) : ∀ (xs : List AV) {B B' : Blk} {H H' : Hp} (_ : Pic w w' B B' H H') {cs : List Value}, Rds U w xs B H cs → Rds U' w' xs B' H' cs
  | [], _, _, _, _, _, _, h => by simpa [Rds] using h
  | x :: xs, _, _, _, _, p, _, h => by
    simp only [Rds] at h ⊢
    obtain ⟨c1, c2, h1, h2, h3⟩ := h
    exact ⟨c1, c2, h1, Rd_go e hU x p h2, Rds_go e hU xs p h3⟩
theorem Rdu_go (e : Evo U w w') (hU : ∀ b o, b < w.heap.size → U' b o → U b o) (n : Nat) : ∀ (xs : List AV) {B B' : Blk} {H H' : Hp} (_ : Pic w w' B B' H H') {cs : List Value}, Rdu U w n xs B H cs → Rdu U' w' n xs B' H' cs
  | [], _, _, _, _, _, _, h => by simpa [Rdu] using h
  | x :: xs, _, _, _, _, p, _, h => by
    simp only [Rdu] at h ⊢
    obtain ⟨c1, c2, h1, hn, h2, h3⟩ := h
    exact ⟨c1, c2, h1, hn, Rd_go e hU x p h2, Rdu_go e hU n xs p h3⟩
theorem Rdp_go (e : Evo U w w') (hU : ∀ b o, b < w.heap.size → U' b o → U b o) : ∀ (xs : List AV) {B B' : Blk} {H H' : Hp} (_ : Pic w w' B B' H H') {cs : List Value}, Rdp U w xs B H cs → Rdp U' w' xs B' H' cs
  | [], _, _, _, _, _, _, h => by simpa [Rdp] using h
  | x :: xs, _, _, _, _, p, _, h => by
    simp only [Rdp] at h ⊢
    obtain ⟨c, vs, h1, h2, h3⟩ := h
    exact ⟨c, vs, h1, Rd_go e hU x p h2, Rdp_go e hU xs p h3⟩
end
theorem Rdv_tup {B : Blk} {H : Hp} {xs : List AV} {v : Value} : Rdv U w B H (.tup xs) v ↔ ∃ vs, v = .tuple vs.toArray ∧ Rdp U w xs B H vs := by simp [Rdv]
theorem Rdv_not {B : Blk} {H : Hp} {x : AV} {v : Value} (hx : ∀ xs, x ≠ .tup xs) : Rdv U w B H x v ↔ ∃ c, Rd U w x B H c ∧ v = pack x c := by
  cases x <;> first | (simp [Rdv]; done) | exact absurd rfl (hx _)
theorem isTup (x : AV) : (∃ xs, x = .tup xs) ∨ ∀ xs, x ≠ .tup xs := by cases x <;> simp
theorem Rdv_go (e : Evo U w w') (hU : ∀ b o, b < w.heap.size → U' b o → U b o) {B B' : Blk} {H H' : Hp} (p : Pic w w' B B' H H') {x : AV} {v : Value} (h : Rdv U w B H x v) : Rdv U' w' B' H' x v := by
  rcases isTup x with ⟨xs, rfl⟩ | hx
  · rw [Rdv_tup] at h ⊢
    obtain ⟨vs, h1, h2⟩ := h
    exact ⟨vs, h1, Rdp_go e hU xs p h2⟩
  · rw [Rdv_not hx] at h ⊢
    obtain ⟨c, h1, h2⟩ := h
    exact ⟨c, Rd_go e hU x p h1, h2⟩
end
end Go.Proofs.Ytphojngdgmnpaaa

namespace Go.Proofs.Ytphojngdgmnpaaa
open Go Go.RowKit
set_option linter.unusedVariables false
set_option linter.unusedSimpArgs false
set_option maxRecDepth 100000

/-- where a call began: the world, what was unsteady, and the boxes that the caller handed in: their version and their block -/
structure Env where
  w0 : World
  X : Uns
  eb : Nat → Option (Nat × Option Nat)
  lo : ∀ g, g < 1000 → eb g = none
  df : List Deferred
def Env.ent (E : Env) (b : Nat) : Prop := ∃ g k, E.eb g = some (k, some b)
/-- a block that the call may turn from o0 on -/
def Mine (E : Env) (b o0 : Nat) : Prop := E.w0.heap.size ≤ b ∨ (b < E.w0.heap.size ∧ E.ent b ∧ ∀ o, o0 ≤ o → E.X b o)
/-- a box handed in keeps its block as long as it keeps its version -/
def Tie (E : Env) (g k : Nat) (bo : Option Nat) : Prop := ∀ k0 b0, E.eb g = some (k0, b0) → k0 ≤ k ∧ (k = k0 → bo = b0)
theorem Tie.none {E : Env} {g k : Nat} {bo : Option Nat} (h : E.eb g = none) : Tie E g k bo := fun _ _ e => by rw [h] at e; cases e
theorem Tie.grow {E : Env} {g k k' : Nat} {bo bo' : Option Nat} (h : Tie E g k bo) (hk : k < k') : Tie E g k' bo' := fun k0 b0 e => by
  have := (h k0 b0 e).1
  exact ⟨by omega, fun e => by omega⟩
theorem Mine.mono {E : Env} {b o0 o1 : Nat} (h : Mine E b o0) (ho : o0 ≤ o1) : Mine E b o1 := h.imp id fun ⟨h0, h1, h2⟩ => ⟨h0, h1, fun o h3 => h2 o (by omega)⟩
def unst (E : Env) (B : Blk) (H : Hp) : Uns := fun b o => (b < E.w0.heap.size ∧ E.X b o ∧ ¬ E.ent b) ∨ ∃ g, B g = some b ∧ match H g with | some (.var _) => True | some (.tail _ n k) => k * n ≤ o | some (.own _ _ _) => True | _ => False
def RelBox (E : Env) (B : Blk) (H : Hp) (w : World) (g : Nat) : Bx → Prop
  | .var x => ∃ b cs t, B g = some b ∧ w.heap[b]? = some (.cells cs.toArray t (0, 0)) ∧ Rd (unst E B H) w x B H cs ∧ Mine E b 0 ∧ Tie E g 0 (some b)
  | .froz x => ∃ b cs, B g = some b ∧ row? w b 0 cs.length = some cs.toArray ∧ Quiet (unst E B H) b 0 cs.length ∧ Rd (unst E B H) w x B H cs
  | .tail e n k => 0 < n ∧ Tie E g k (B g) ∧ ((B g = none ∧ k = 0) ∨ ∃ b cur cap, B g = some b ∧ w.heap[b]? = some (.cells cur e (0, 0)) ∧ cur.size = cap * n ∧ k ≤ cap ∧ cap ≤ maxLen ∧ Mine E b (k * n))
  | .own e n xs => 0 < n ∧ Tie E g xs.length (B g) ∧ ((B g = none ∧ xs = []) ∨ ∃ b cur cap c, B g = some b ∧ w.heap[b]? = some (.cells cur e (0, 0)) ∧ cur.size = cap * n ∧ xs.length ≤ cap ∧ cap ≤ maxLen ∧ (∀ o, o < xs.length * n → cur[o]? = c[o]?) ∧ Rdu (unst E B H) w n xs B0 H0 c ∧ Mine E b 0)
def live : Option Bx → Bool
  | some (.var _) => true
  | some (.tail _ _ _) => true
  | some (.own _ _ _) => true
  | _ => false
/-- what the call leaves of what was there -/
structure Left (E : Env) (w : World) : Prop where
  os : w.os = E.w0.os
  tape : w.tape = E.w0.tape
  output : w.output = E.w0.output
  size : E.w0.heap.size ≤ w.heap.size
  block : ∀ k, k < E.w0.heap.size → ¬ E.ent k → w.heap[k]? = E.w0.heap[k]?
  evo : Evo E.X E.w0 w
structure Rel (E : Env) (nt : Nat) (B : Blk) (T : Nat → Option AV) (H : Hp) (a : Act) (w : World) : Prop where
  nt : a.tmps.size = nt
  df : a.defers = E.df
  tmp : ∀ s x, T s = some x → ∃ v, a.tmps[s]? = some v ∧ Rdv (unst E B H) w B H x v
  box : ∀ g bx, H g = some bx → RelBox E B H w g bx
  non : ∀ g, H g = none → B g = none
  inj : ∀ g g' b, live (H g) = true → live (H g') = true → B g = some b → B g' = some b → g = g'
  left : Left E w
  keep : ∀ g, H g = none → E.eb g = none

def upd {α : Type} (f : Nat → Option α) (k : Nat) (v : α) : Nat → Option α := fun j => if j = k then some v else f j
theorem upd_same {α : Type} (f : Nat → Option α) (k : Nat) (v : α) : upd f k v k = some v := by simp [upd]
theorem upd_ne {α : Type} (f : Nat → Option α) {j k : Nat} (v : α) (h : j ≠ k) : upd f k v j = f j := by simp [upd, h]
theorem upd_comm {α : Type} (f : Nat → Option α) {j k : Nat} (v u : α) (h : j ≠ k) : upd (upd f k v) j u = upd (upd f j u) k v := by
  funext i
  simp only [upd]
  by_cases h1 : i = j
  · subst h1; simp [h]
  · simp [h1]
def look {α : Type} (k : Nat) : List (Nat × α) → Option α
  | [] => none
  | (j, v) :: l => bif Nat.beq j k then some v else look k l
theorem look_cons {α : Type} (j : Nat) (v : α) (l : List (Nat × α)) : (fun k => look k ((j, v) :: l)) = upd (fun k => look k l) j v := by
  funext k
  simp only [look, upd]
  by_cases h : k = j
  · subst h; simp
  · have : Nat.beq j k = false := by
      cases hb : Nat.beq j k
      · rfl
      · exact absurd (Nat.eq_of_beq_eq_true hb).symm h
    simp [this, h]

structure Eff where
  val : AV
  wr : List (Nat × Bx)
def updT (T : Nat → Option AV) (d : Option Nat) (x : AV) : Nat → Option AV := match d with | some d => upd T d x | none => T
def updH (H : Hp) : List (Nat × Bx) → Hp
  | [] => H
  | (g, b) :: l => upd (updH H l) g b
structure St where
  T : List (Nat × AV)
  H : List (Nat × Bx)
def St.t (S : St) : Nat → Option AV := fun k => look k S.T
def St.h (S : St) : Hp := fun k => look k S.H
def St.app (S : St) (d : Option Nat) (e : Eff) : St := ⟨match d with | some d => (d, e.val) :: S.T | none => S.T, e.wr ++ S.H⟩
theorem St.app_t (S : St) (d : Option Nat) (e : Eff) : (S.app d e).t = updT S.t d e.val := by
  cases d
  · rfl
  · exact look_cons _ _ _
theorem St.app_h (S : St) (d : Option Nat) (e : Eff) : (S.app d e).h = updH S.h e.wr := by
  have : ∀ l : List (Nat × Bx), (fun k => look k (l ++ S.H)) = updH S.h l := by
    intro l
    induction l with
    | nil => rfl
    | cons p l ih =>
      obtain ⟨g, b⟩ := p
      rw [List.cons_append, look_cons, ih]; rfl
  exact this e.wr

def dOk (nt : Nat) (d : Option Nat) : Bool := match d with | some d => Nat.blt d nt | none => true
def Step (P : Program) (E : Env) (nt : Nat) (o : Oper) (T : Nat → Option AV) (H : Hp) (e : Eff) : Prop :=
  ∀ B a w, Rel E nt B T H a w → ∀ (K : Act → World → Prop) (Q : Exit → Act → World → Prop),
    (∀ B' a' w', Rel E nt B' (updT T o.dst e.val) (updH H e.wr) a' w' → K a' w') → o.wp P a w K Q
/-- an operation: it reads so many boxes beside its slots; what it leaves -/
def OpOK (P : Program) (E : Env) (nt : Nat) (ops : Array Oper) (o : Oper) (T : Nat → Option AV) (H : Hp) (rh : List Nat) (e : Eff) : Prop :=
  ∀ T' H', (∀ s ∈ o.looksAt ops, T' s = T s) → (∀ g ∈ rh, H' g = H g) → (∀ p ∈ e.wr, H' p.1 = H p.1) → Step P E nt o T' H' e
def wantedA (ops : Array Oper) (o : Oper) (T : Nat → Option AV) : Option Bool :=
  match o.guard with
  | none => some true
  | some (j, b) => match ((ops[j]?).bind (·.dst)).bind T with
    | some (.v (.bool c)) => some (c == b)
    | some (.tup _) => some false
    | _ => none
structure Rec where
  rh : List Nat
  wr : List Nat
def St.same (S S' : St) : Prop := S'.t = S.t ∧ S'.h = S.h
/-- the operations of a region, in the text's order -/
def AWops (P : Program) (E : Env) (nt : Nat) (ops : Array Oper) : List Oper → St → List Rec → (St → List Rec → Prop) → Prop
  | [], S, rs, K => K S rs
  | o :: l, S0, rs, K => ∃ S, S0.same S ∧
    ((wantedA ops o S.t = some true ∧ ∃ rh e, OpOK P E nt ops o S.t S.h rh e ∧ AWops P E nt ops l (S.app o.dst e) (rs ++ [⟨rh, e.wr.map (·.1)⟩]) K) ∨
    (wantedA ops o S.t = some false ∧ dOk nt o.dst = true ∧ AWops P E nt ops l (S.app o.dst ⟨.tup [], []⟩) (rs ++ [⟨[], []⟩]) K))

theorem Rel.put {E : Env} {nt : Nat} {B : Blk} {T : Nat → Option AV} {H : Hp} {a : Act} {w : World} (r : Rel E nt B T H a w) {d : Option Nat} (hd : dOk nt d = true) {x : AV} {v : Value} (h : Rdv (unst E B H) w B H x v) :
    Rel E nt B (updT T d x) H (a.put d v) w := by
  cases d with
  | none => exact r
  | some d =>
    have hd' : d < a.tmps.size := by rw [r.nt]; simpa [dOk] using hd
    refine ⟨by simp [Act.put, r.nt], r.df, fun s y hs => ?_, r.box, r.non, r.inj, r.left, r.keep⟩
    simp only [updT, upd] at hs
    by_cases hsd : s = d
    · subst hsd
      simp at hs
      subst hs
      exact ⟨v, by simp [Act.put, Array.getElem?_setIfInBounds, hd'], h⟩
    · rw [if_neg hsd] at hs
      obtain ⟨u, h1, h2⟩ := r.tmp s y hs
      exact ⟨u, by simp [Act.put, Array.getElem?_setIfInBounds, Ne.symm hsd, h1], h2⟩
theorem Rel.undef {E : Env} {nt : Nat} {B : Blk} {T : Nat → Option AV} {H : Hp} {a : Act} {w : World} (r : Rel E nt B T H a w) {d : Option Nat} (hd : dOk nt d = true) : Rel E nt B (updT T d (.tup [])) H (a.put d undef) w :=
  r.put hd (by rw [Rdv_tup]; exact ⟨[], rfl, by simp [Rdp]⟩)
theorem wanted_of {E : Env} {nt : Nat} {B : Blk} {T : Nat → Option AV} {H : Hp} {a : Act} {w : World} (r : Rel E nt B T H a w) {ops : Array Oper} {o : Oper} {b : Bool} (h : wantedA ops o T = some b) : Region.wanted o (yielded ops a.tmps) = b := by
  unfold wantedA at h
  unfold Region.wanted
  split at h
  · rename_i hg; injection h with h; subst h; simp [hg]
  · rename_i j c hg
    split at h
    · rename_i k hk
      injection h with h
      subst h
      simp only [hg]
      unfold yielded
      cases hd : (ops[j]?).bind (·.dst) with
      | none => rw [hd] at hk; simp at hk
      | some d =>
        rw [hd] at hk
        simp only [Option.bind_some] at hk ⊢
        obtain ⟨v, h1, h2⟩ := r.tmp d _ hk
        rw [Rdv_not (by intro xs; simp)] at h2
        obtain ⟨cs, h3, h4⟩ := h2
        simp only [Rd] at h3
        obtain ⟨_, rfl⟩ := h3
        subst h4
        simp [pack, h1]
    · rename_i xs hk
      injection h with h
      subst h
      simp only [hg]
      unfold yielded
      cases hd : (ops[j]?).bind (·.dst) with
      | none => rw [hd] at hk; simp at hk
      | some d =>
        rw [hd] at hk
        simp only [Option.bind_some] at hk ⊢
        obtain ⟨v, h1, h2⟩ := r.tmp d _ hk
        rw [Rdv_tup] at h2
        obtain ⟨vs, h3, _⟩ := h2
        subst h3
        simp [h1]
    · cases h

/-! ### a region in the text's order -/
theorem wpOps_seq {P : Program} {E : Env} {nt : Nat} {ops : Array Oper} {Q : Exit → Act → World → Prop} {K : St → List Rec → Prop}
    (hK : ∀ S rs, K S rs → ∀ B a w, Rel E nt B S.t S.h a w → Q .normal a w) :
    ∀ (l : List Oper) (i : Nat) (S : St) (rs : List Rec) (B : Blk) (a : Act) (w : World), ops.toList.drop i = l → AWops P E nt ops l S rs K → Rel E nt B S.t S.h a w → wpOps P ops Q (List.range' i l.length) a w
  | [], i, S, rs, B, a, w, _, h, r => hK S rs h B a w r
  | o :: l, i, S, rs, B, a, w, hl, h, r => by
    have hi : i < ops.size := by
      rcases Nat.lt_or_ge i ops.size with h | h
      · exact h
      · rw [List.drop_eq_nil_of_le (by simpa using h)] at hl; cases hl
    rw [List.drop_eq_getElem_cons (by simpa using hi)] at hl
    injection hl with h1 h2
    have ho : ops[i]? = some o := by rw [← h1]; simp
    rw [List.length_cons, List.range'_succ]
    simp only [wpOps, ho]
    obtain ⟨S1, ⟨es1, es2⟩, h⟩ := h
    rw [← es1, ← es2] at r
    have e1 := St.app_t S1 o.dst
    have e2 := St.app_h S1 o.dst
    rcases h with ⟨hw, rh, e, hok, hrest⟩ | ⟨hw, hd, hrest⟩
    · rw [if_pos (wanted_of r hw)]
      refine .inl (hok S1.t S1.h (fun _ _ => rfl) (fun _ _ => rfl) (fun _ _ => rfl) B a w r _ _ fun B' a' w' r' => ?_)
      rw [← e1, ← e2] at r'
      exact wpOps_seq hK l (i + 1) _ _ B' a' w' h2 hrest r'
    · rw [if_neg (by rw [wanted_of r hw]; simp)]
      have r' := r.undef hd
      have e1' := e1 ⟨.tup [], []⟩
      have e2' := e2 ⟨.tup [], []⟩
      simp only [updH] at e2'
      rw [← e1', ← e2'] at r'
      exact wpOps_seq hK l (i + 1) _ _ B _ w h2 hrest r'
end Go.Proofs.Ytphojngdgmnpaaa

namespace Go.Proofs.Ytphojngdgmnpaaa
open Go Go.RowKit
set_option linter.unusedVariables false
set_option linter.unusedSimpArgs false
set_option maxRecDepth 100000

structure ERec where
  want : Bool
  rh : List Nat
  e : Eff
instance : Inhabited ERec := ⟨⟨false, [], ⟨.tup [], []⟩⟩⟩
def ERec.rec_ (x : ERec) : Rec := ⟨x.rh, x.e.wr.map (·.1)⟩
abbrev Sp := (Nat → Option AV) × Hp
def appF (s : Sp) (o : Oper) (x : ERec) : Sp := (updT s.1 o.dst x.e.val, updH s.2 x.e.wr)
/-- what those that are listed leave, in the text's order -/
def fs (o : Nat → Oper) (x : Nat → ERec) (L : Nat → Bool) (s : Sp) : Nat → Sp
  | 0 => s
  | k + 1 => if L k then appF (fs o x L s k) (o k) (x k) else fs o x L s k
def GoodAt (P : Program) (E : Env) (nt : Nat) (ops : Array Oper) (o : Oper) (x : ERec) (s : Sp) : Prop :=
  wantedA ops o s.1 = some x.want ∧ (x.want = true → OpOK P E nt ops o s.1 s.2 x.rh x.e) ∧ (x.want = false → dOk nt o.dst = true ∧ x.e = ⟨.tup [], []⟩)
def all1 : Nat → Bool := fun _ => true
theorem fs_shift (o : Nat → Oper) (x : Nat → ERec) (s : Sp) : ∀ k, fs o x all1 s (k + 1) = fs (fun i => o (i + 1)) (fun i => x (i + 1)) all1 (appF s (o 0) (x 0)) k
  | 0 => by simp [fs, all1]
  | k + 1 => by
    have ih := fs_shift o x s k
    rw [fs, ih]
    simp [fs, all1]
theorem AWops_ex {P : Program} {E : Env} {nt : Nat} {ops : Array Oper} {K : St → List Rec → Prop} : ∀ (l : List Oper) (S : St) (rs : List Rec), AWops P E nt ops l S rs K →
    ∃ x : List ERec, x.length = l.length ∧ (∃ S', K S' (rs ++ x.map ERec.rec_) ∧ (S'.t, S'.h) = fs (fun i => l.getD i default) (fun i => x.getD i default) all1 (S.t, S.h) l.length) ∧
      ∀ i, i < l.length → GoodAt P E nt ops (l.getD i default) (x.getD i default) (fs (fun i => l.getD i default) (fun i => x.getD i default) all1 (S.t, S.h) i)
  | [], S, rs, h => ⟨[], rfl, ⟨S, by simp only [AWops] at h; simpa using h, rfl⟩, fun i hi => absurd hi (by simp)⟩
  | o :: l, S, rs, h => by
    obtain ⟨S0, ⟨es1, es2⟩, h⟩ := h
    rw [← es1, ← es2]
    clear es1 es2
    have fin : ∀ (y : ERec), GoodAt P E nt ops o y (S0.t, S0.h) → AWops P E nt ops l (S0.app o.dst y.e) (rs ++ [y.rec_]) K → ∃ x : List ERec, x.length = (o :: l).length ∧ (∃ S', K S' (rs ++ x.map ERec.rec_) ∧ (S'.t, S'.h) = fs (fun i => (o :: l).getD i default) (fun i => x.getD i default) all1 (S0.t, S0.h) (o :: l).length) ∧
        ∀ i, i < (o :: l).length → GoodAt P E nt ops ((o :: l).getD i default) (x.getD i default) (fs (fun i => (o :: l).getD i default) (fun i => x.getD i default) all1 (S0.t, S0.h) i) := by
      intro y hy hr
      obtain ⟨x, h1, ⟨S', h2, h3⟩, h4⟩ := AWops_ex l _ _ hr
      have hs : (((S0.app o.dst y.e).t, (S0.app o.dst y.e).h) : Sp) = appF (S0.t, S0.h) o y := by rw [St.app_t, St.app_h]; rfl
      rw [hs] at h3 h4
      refine ⟨y :: x, by simp [h1], ⟨S', by simpa using h2, ?_⟩, fun i hi => ?_⟩
      · rw [List.length_cons, fs_shift]
        simpa using h3
      · cases i with
        | zero => simpa [fs] using hy
        | succ i =>
          rw [fs_shift]
          simpa using h4 i (by simpa using hi)
    rcases h with ⟨hw, rh, e, hok, hr⟩ | ⟨hw, hd, hr⟩
    · exact fin ⟨true, rh, e⟩ ⟨hw, fun _ => hok, fun h => by cases h⟩ hr
    · exact fin ⟨false, [], ⟨.tup [], []⟩⟩ ⟨hw, (fun h => absurd h (by simp)), fun _ => ⟨hd, rfl⟩⟩ hr

/-! ### operations that do not touch one another -/
def clash (ops : Array Oper) (o1 : Oper) (r1 : Rec) (o2 : Oper) (r2 : Rec) : Bool :=
  (match o1.dst with | some d => (o2.looksAt ops).contains d || o2.dst == some d | none => false) ||
  (match o2.dst with | some d => (o1.looksAt ops).contains d | none => false) ||
  r1.wr.any (fun g => r2.rh.contains g || r2.wr.contains g) || r2.wr.any (fun g => r1.rh.contains g)
structure NoClash (ops : Array Oper) (o1 : Oper) (x1 : ERec) (o2 : Oper) (x2 : ERec) : Prop where
  t12 : ∀ d, o1.dst = some d → d ∉ o2.looksAt ops
  t21 : ∀ d, o2.dst = some d → d ∉ o1.looksAt ops
  tt : ∀ d, o1.dst = some d → o2.dst ≠ some d
  h12 : ∀ p ∈ x1.e.wr, p.1 ∉ x2.rh
  h21 : ∀ p ∈ x2.e.wr, p.1 ∉ x1.rh
  hh : ∀ p ∈ x1.e.wr, ∀ q ∈ x2.e.wr, p.1 ≠ q.1
theorem noClash {ops : Array Oper} {o1 o2 : Oper} {x1 x2 : ERec} (h : clash ops o1 x1.rec_ o2 x2.rec_ = false) : NoClash ops o1 x1 o2 x2 := by
  unfold clash at h
  simp only [Bool.or_eq_false_iff, ERec.rec_, List.any_eq_false, List.mem_map, Bool.or_eq_true, List.contains_iff_mem, not_or] at h
  obtain ⟨⟨⟨h1, h2⟩, h3⟩, h4⟩ := h
  refine ⟨fun d hd => ?_, fun d hd => ?_, fun d hd => ?_, fun p hp => ?_, fun p hp => ?_, fun p hp q hq => ?_⟩
  · rw [hd] at h1; simp at h1; exact h1.1
  · rw [hd] at h2; simpa using h2
  · rw [hd] at h1; simp at h1; exact h1.2
  · exact (h3 p.1 ⟨p, hp, rfl⟩).1
  · exact h4 p.1 ⟨p, hp, rfl⟩
  · have := (h3 p.1 ⟨p, hp, rfl⟩).2
    exact fun e => this ⟨q, hq, e.symm⟩
theorem updH_at {H : Hp} : ∀ {l : List (Nat × Bx)} {g : Nat}, (∀ p ∈ l, p.1 ≠ g) → updH H l g = H g
  | [], g, _ => rfl
  | (k, b) :: l, g, h => by
    rw [updH, upd_ne _ _ (Ne.symm (h _ List.mem_cons_self))]
    exact updH_at fun p hp => h p (List.mem_cons_of_mem _ hp)
theorem updH_congr {H H' : Hp} {g : Nat} (h : H g = H' g) : ∀ (l : List (Nat × Bx)), updH H l g = updH H' l g
  | [] => h
  | (k, b) :: l => by
    simp only [updH, upd]
    split
    · rfl
    · exact updH_congr h l
theorem updH_upd {H : Hp} {k : Nat} {b : Bx} : ∀ {l : List (Nat × Bx)}, (∀ p ∈ l, p.1 ≠ k) → updH (upd H k b) l = upd (updH H l) k b
  | [], _ => rfl
  | (j, c) :: l, h => by
    have hj := h _ List.mem_cons_self
    rw [updH, updH, updH_upd fun p hp => h p (List.mem_cons_of_mem _ hp), upd_comm _ _ _ hj]
theorem updH_comm {H : Hp} {l : List (Nat × Bx)} : ∀ {m : List (Nat × Bx)}, (∀ p ∈ l, ∀ q ∈ m, p.1 ≠ q.1) → updH (updH H l) m = updH (updH H m) l
  | [], _ => rfl
  | (k, b) :: m, h => by
    have h1 : updH (updH H l) m = updH (updH H m) l := updH_comm fun p hp q hq => h p hp q (List.mem_cons_of_mem _ hq)
    rw [updH, updH, h1, updH_upd fun p hp => h p hp (k, b) List.mem_cons_self]
theorem updT_comm {T : Nat → Option AV} {c d : Option Nat} {x y : AV} (h : ∀ i, c = some i → d ≠ some i) : updT (updT T c x) d y = updT (updT T d y) c x := by
  cases c with
  | none => rfl
  | some i =>
    cases d with
    | none => rfl
    | some j => exact upd_comm _ _ _ (fun e => h i rfl (by rw [e]))
theorem appF_comm {ops : Array Oper} {o1 o2 : Oper} {x1 x2 : ERec} (h : NoClash ops o1 x1 o2 x2) (s : Sp) : appF (appF s o1 x1) o2 x2 = appF (appF s o2 x2) o1 x1 := by
  simp only [appF]
  rw [updT_comm h.tt, updH_comm h.hh]
theorem updT_at {T : Nat → Option AV} {d : Option Nat} {x : AV} {s : Nat} (h : d ≠ some s) : updT T d x s = T s := by
  cases d with
  | none => rfl
  | some d => exact upd_ne _ _ (fun e => h (by rw [e]))
theorem updT_congr {T T' : Nat → Option AV} {s : Nat} (h : T s = T' s) (d : Option Nat) (x : AV) : updT T d x s = updT T' d x s := by
  cases d with
  | none => exact h
  | some d =>
    simp only [updT, upd]
    split
    · rfl
    · exact h

section
variable {ops : Array Oper} {o : Nat → Oper} {x : Nat → ERec} {s : Sp}
def addL (L : Nat → Bool) (i : Nat) : Nat → Bool := fun k => if k = i then true else L k
theorem fs_congr {L L' : Nat → Bool} : ∀ {k : Nat}, (∀ j, j < k → L j = L' j) → fs o x L s k = fs o x L' s k
  | 0, _ => rfl
  | k + 1, h => by
    simp only [fs]
    rw [h k (by omega), fs_congr fun j hj => h j (by omega)]
theorem fs_add {L : Nat → Bool} {i : Nat} (hi : L i = false) : ∀ (k : Nat), i < k → (∀ j, i < j → j < k → L j = true → NoClash ops (o i) (x i) (o j) (x j)) → fs o x (addL L i) s k = appF (fs o x L s k) (o i) (x i)
  | 0, h, _ => absurd h (by omega)
  | k + 1, h, hc => by
    by_cases hk : k = i
    · subst hk
      have e : fs o x (addL L k) s k = fs o x L s k := fs_congr fun j hj => by simp [addL, show j ≠ k by omega]
      simp [fs, addL, hi, e]
    · have ih := fs_add (L := L) hi k (by omega) (fun j h1 h2 h3 => hc j h1 (by omega) h3)
      have e : addL L i k = L k := by simp [addL, hk]
      simp only [fs, e, ih]
      cases hL : L k
      · simp
      · simp [appF_comm (hc k (by omega) (by omega) hL)]
/-- what operation i reads is as the text's order has it -/
theorem fs_t {L : Nat → Bool} {i d : Nat} (hi : L i = false) : ∀ (k : Nat), (∀ j, j < i → j < k → L j = false → (o j).dst ≠ some d) → (∀ j, i < j → j < k → L j = true → (o j).dst ≠ some d) → (fs o x L s k).1 d = (fs o x all1 s (min k i)).1 d
  | 0, _, _ => by simp [fs]
  | k + 1, h1, h2 => by
    have ih := fs_t (L := L) hi k (fun j a b c => h1 j a (by omega) c) (fun j a b c => h2 j a (by omega) c)
    by_cases hki : k < i
    · have e1 : min k i = k := by omega
      have e2 : min (k + 1) i = k + 1 := by omega
      rw [e1] at ih
      rw [e2]
      cases hL : L k
      · simp only [fs, hL, all1]
        simp only [Bool.false_eq_true, if_false, if_true]
        rw [ih]
        exact (updT_at (h1 k hki (by omega) hL)).symm
      · simp only [fs, hL, all1]
        simp only [if_true]
        exact updT_congr ih _ _
    · have e1 : min k i = i := by omega
      have e2 : min (k + 1) i = i := by omega
      rw [e1] at ih
      rw [e2]
      cases hL : L k
      · simp only [fs, hL]; exact ih
      · simp only [fs, hL]
        simp only [if_true]
        have hne : i ≠ k := fun e => by subst e; rw [hi] at hL; cases hL
        exact (updT_at (h2 k (by omega) (by omega) hL)).trans ih
theorem fs_h {L : Nat → Bool} {i g : Nat} (hi : L i = false) : ∀ (k : Nat), (∀ j, j < i → j < k → L j = false → ∀ p ∈ (x j).e.wr, p.1 ≠ g) → (∀ j, i < j → j < k → L j = true → ∀ p ∈ (x j).e.wr, p.1 ≠ g) → (fs o x L s k).2 g = (fs o x all1 s (min k i)).2 g
  | 0, _, _ => by simp [fs]
  | k + 1, h1, h2 => by
    have ih := fs_h (L := L) hi k (fun j a b c => h1 j a (by omega) c) (fun j a b c => h2 j a (by omega) c)
    by_cases hki : k < i
    · have e1 : min k i = k := by omega
      have e2 : min (k + 1) i = k + 1 := by omega
      rw [e1] at ih
      rw [e2]
      cases hL : L k
      · simp only [fs, hL, all1]
        simp only [Bool.false_eq_true, if_false, if_true]
        rw [ih]
        exact (updH_at (h1 k hki (by omega) hL)).symm
      · simp only [fs, hL, all1]
        simp only [if_true]
        exact updH_congr ih _
    · have e1 : min k i = i := by omega
      have e2 : min (k + 1) i = i := by omega
      rw [e1] at ih
      rw [e2]
      cases hL : L k
      · simp only [fs, hL]; exact ih
      · simp only [fs, hL]
        simp only [if_true]
        have hne : i ≠ k := fun e => by subst e; rw [hi] at hL; cases hL
        exact (updH_at (h2 k (by omega) (by omega) hL)).trans ih
end

/-! ### whatever the order -/
def preds (o : Oper) : List Nat := o.after.toList.filterMap fun e => if Region.binds .any e then some e.on else none
def masks : List Oper → List Nat → List Nat
  | [], acc => acc
  | o :: l, acc => masks l (acc ++ [(preds o).foldl (fun m p => m ||| (1 <<< p) ||| acc.getD p 0) 0])
def ancOk (ops : List Oper) (A : List Nat) : Bool :=
  (List.range ops.length).all fun j => (List.range j).all fun i => !(A.getD j 0).testBit i || (preds (ops.getD j default)).any fun p => p == i || (decide (p < j) && decide (i < p) && (A.getD p 0).testBit i)
def orderOk (ops : Array Oper) (rs : List Rec) : Bool :=
  let l := ops.toList
  let A := masks l []
  decide (rs.length = l.length) && (List.range l.length).all (fun j => (preds (l.getD j default)).all (· < j)) && ancOk l A &&
  (List.range l.length).all fun j => (List.range j).all fun i => (A.getD j 0).testBit i || !clash ops (l.getD i default) (rs.getD i ⟨[], []⟩) (l.getD j default) (rs.getD j ⟨[], []⟩)

theorem anc_in {ops : List Oper} {A : List Nat} (hA : ancOk ops A = true) {L : Nat → Bool} (hL : ∀ j, j < ops.length → L j = true → ∀ p ∈ preds (ops.getD j default), L p = true) :
    ∀ (j : Nat), j < ops.length → ∀ i, i < j → (A.getD j 0).testBit i = true → (∀ p ∈ preds (ops.getD j default), L p = true) → L i = true := by
  intro j
  induction j using Nat.strongRecOn with
  | _ j ih =>
    intro hj i hi hb hp
    have h := hA
    unfold ancOk at h
    rw [List.all_eq_true] at h
    have h1 := h j (by simpa using hj)
    rw [List.all_eq_true] at h1
    have h2 := h1 i (by simpa using hi)
    rw [hb] at h2
    simp only [Bool.not_true, Bool.false_or, List.any_eq_true, Bool.or_eq_true, beq_iff_eq, Bool.and_eq_true, decide_eq_true_eq] at h2
    obtain ⟨p, hpm, h3⟩ := h2
    rcases h3 with rfl | ⟨⟨hpj, hip⟩, hpb⟩
    · exact hp _ hpm
    · exact ih p hpj (by omega) i hip hpb (hL p (by omega) (hp p hpm))

section
variable {P : Program} {E : Env} {nt : Nat} {ops : Array Oper} {Q : Exit → Act → World → Prop} {x : Nat → ERec} {s : Sp} {A : List Nat}
abbrev opAt (ops : Array Oper) : Nat → Oper := fun i => ops.toList.getD i default
def listedL (l : Array Bool) : Nat → Bool := fun i => l.getD i false
structure Plan (P : Program) (E : Env) (nt : Nat) (ops : Array Oper) (x : Nat → ERec) (s : Sp) (A : List Nat) : Prop where
  good : ∀ i, i < ops.size → GoodAt P E nt ops (opAt ops i) (x i) (fs (opAt ops) x all1 s i)
  pre : ∀ j, j < ops.size → ∀ p ∈ preds (opAt ops j), p < j
  anc : ancOk ops.toList A = true
  free : ∀ j, j < ops.size → ∀ i, i < j → (A.getD j 0).testBit i = true ∨ NoClash ops (opAt ops i) (x i) (opAt ops j) (x j)
def Down (ops : Array Oper) (L : Nat → Bool) : Prop := ∀ j, j < ops.size → L j = true → ∀ p ∈ preds (opAt ops j), L p = true
theorem mem_ready {l : Array Bool} (hs : l.size = ops.size) {i : Nat} : i ∈ Region.ready .any ops l ↔ i < ops.size ∧ listedL l i = false ∧ ∀ p ∈ preds (opAt ops i), listedL l p = true := by
  unfold Region.ready
  rw [List.mem_filter, List.mem_range]
  constructor
  · rintro ⟨hi, h⟩
    rw [Bool.and_eq_true] at h
    obtain ⟨h1, h2⟩ := h
    have ho : ops[i]? = some (opAt ops i) := by simp [opAt, hi]
    rw [ho] at h2
    simp only [Option.map_some, Option.getD_some, Array.all_eq_true', Bool.or_eq_true, Bool.not_eq_true'] at h2
    refine ⟨hi, ?_, fun p hp => ?_⟩
    · have hi' : i < l.size := by omega
      simp [hi', Array.getD] at h1
      simp [listedL, Array.getD, hi', h1]
    · unfold preds at hp
      rw [List.mem_filterMap] at hp
      obtain ⟨e, he, h3⟩ := hp
      split at h3
      · rename_i hb
        injection h3 with h3
        subst h3
        rcases h2 e (by simpa using he) with h4 | h4
        · rw [hb] at h4; cases h4
        · exact h4
      · cases h3
  · rintro ⟨hi, h1, h2⟩
    have ho : ops[i]? = some (opAt ops i) := by simp [opAt, hi]
    refine ⟨hi, ?_⟩
    rw [Bool.and_eq_true, ho]
    refine ⟨?_, ?_⟩
    · have hi' : i < l.size := by omega
      simp [listedL, Array.getD, hi'] at h1
      simp [Array.getD, hi', h1]
    · simp only [Option.map_some, Option.getD_some, Array.all_eq_true', Bool.or_eq_true, Bool.not_eq_true']
      intro e he
      cases hb : Region.binds .any e
      · exact .inl rfl
      · refine .inr (h2 e.on ?_)
        unfold preds
        rw [List.mem_filterMap]
        exact ⟨e, by simpa using he, by simp [hb]⟩
theorem all_listed {l : Array Bool} (hs : l.size = ops.size) (hpre : ∀ j, j < ops.size → ∀ p ∈ preds (opAt ops j), p < j) (h : Region.ready .any ops l = []) : ∀ j, j < ops.size → listedL l j = true := by
  intro j
  induction j using Nat.strongRecOn with
  | _ j ih =>
    intro hj
    cases hl : listedL l j
    · have : j ∈ Region.ready .any ops l := (mem_ready hs).2 ⟨hj, hl, fun p hp => ih p (hpre j hj p hp) (by have := hpre j hj p hp; omega)⟩
      rw [h] at this
      cases this
    · rfl
theorem wantedA_congr {o : Oper} {T T' : Nat → Option AV} (h : ∀ d ∈ o.looksAt ops, T' d = T d) : wantedA ops o T' = wantedA ops o T := by
  unfold wantedA
  split
  · rfl
  · rename_i j b hg
    cases hd : (ops[j]?).bind (·.dst) with
    | none => rfl
    | some d =>
      have : T' d = T d := h d (by unfold Oper.looksAt; rw [hg]; simp [hd])
      simp only [Option.bind_some, this]
theorem listed_set {l : Array Bool} {i : Nat} (h : i < l.size) : listedL (l.setIfInBounds i true) = addL (listedL l) i := by
  funext j
  simp only [listedL, addL, Array.getD_eq_getD_getElem?, Array.getElem?_setIfInBounds]
  by_cases hj : j = i
  · subst hj; simp [h]
  · simp [hj, Ne.symm hj]
theorem cnt_ge {L : Nat → Bool} {i : Nat} : ∀ n, n ≤ i → (List.range n).countP (fun k => !addL L i k) = (List.range n).countP (fun k => !L k)
  | 0, _ => rfl
  | n + 1, h => by
    rw [List.range_succ, List.countP_append, List.countP_append, cnt_ge n (by omega)]
    simp [addL, show n ≠ i by omega]
theorem cnt_lt {L : Nat → Bool} {i : Nat} (hL : L i = false) : ∀ n, i < n → (List.range n).countP (fun k => !addL L i k) + 1 = (List.range n).countP (fun k => !L k)
  | 0, h => absurd h (by omega)
  | n + 1, h => by
    rw [List.range_succ, List.countP_append, List.countP_append]
    by_cases hn : n = i
    · subst hn
      rw [cnt_ge n (Nat.le_refl _)]
      simp [addL, hL]
    · have ih := cnt_lt hL n (by omega)
      have e : [n].countP (fun k => !addL L i k) = [n].countP (fun k => !L k) := by simp [addL, hn]
      rw [e]; omega
theorem wpAny_plan (pl : Plan P E nt ops x s A) (hQ : ∀ B a w, Rel E nt B (fs (opAt ops) x all1 s ops.size).1 (fs (opAt ops) x all1 s ops.size).2 a w → Q .normal a w) :
    ∀ (fuel : Nat) (l : Array Bool) (B : Blk) (a : Act) (w : World), l.size = ops.size → Down ops (listedL l) → (List.range ops.size).countP (fun i => !listedL l i) ≤ fuel →
      Rel E nt B (fs (opAt ops) x (listedL l) s ops.size).1 (fs (opAt ops) x (listedL l) s ops.size).2 a w → wpAny P .any ops Q fuel l a w := by
  have done : ∀ (l : Array Bool) (B : Blk) (a : Act) (w : World), l.size = ops.size → Region.ready .any ops l = [] → Rel E nt B (fs (opAt ops) x (listedL l) s ops.size).1 (fs (opAt ops) x (listedL l) s ops.size).2 a w → Q .normal a w := by
    intro l B a w hs hr r
    have e : fs (opAt ops) x (listedL l) s ops.size = fs (opAt ops) x all1 s ops.size := fs_congr fun j hj => all_listed hs pl.pre hr j hj
    rw [e] at r
    exact hQ B a w r
  intro fuel
  induction fuel with
  | zero =>
    intro l B a w hs hd hf r
    have hr : Region.ready .any ops l = [] := by
      cases h : Region.ready .any ops l with
      | nil => rfl
      | cons i t =>
        have hi : i ∈ Region.ready .any ops l := by rw [h]; simp
        rw [mem_ready hs] at hi
        have : 0 < (List.range ops.size).countP (fun i => !listedL l i) := List.countP_pos_iff.2 ⟨i, by simpa using hi.1, by simp [hi.2.1]⟩
        omega
    exact ⟨hr, done l B a w hs hr r⟩
  | succ fuel ih =>
    intro l B a w hs hd hf r
    refine ⟨fun hr => done l B a w hs hr r, fun i hi => ?_⟩
    rw [mem_ready hs] at hi
    obtain ⟨hin, hl, hp⟩ := hi
    have ho : ops[i]? = some (opAt ops i) := by simp [opAt, hin]
    have lo : ∀ j, j < i → listedL l j = false → NoClash ops (opAt ops j) (x j) (opAt ops i) (x i) := by
      intro j hj hjl
      rcases pl.free i hin j hj with h | h
      · have := anc_in pl.anc (L := listedL l) (fun j hj => hd j (by simpa using hj)) i (by simpa using hin) j hj h hp
        rw [this] at hjl; cases hjl
      · exact h
    have hi' : ∀ j, i < j → j < ops.size → listedL l j = true → NoClash ops (opAt ops i) (x i) (opAt ops j) (x j) := by
      intro j hj hjn hjl
      rcases pl.free j hjn i hj with h | h
      · have := anc_in pl.anc (L := listedL l) (fun j hj => hd j (by simpa using hj)) j (by simpa using hjn) i hj h (hd j hjn hjl)
        rw [this] at hl; cases hl
      · exact h
    have em : min ops.size i = i := by omega
    have at_ : ∀ d ∈ (opAt ops i).looksAt ops, (fs (opAt ops) x (listedL l) s ops.size).1 d = (fs (opAt ops) x all1 s i).1 d := by
      intro d hdm
      have := fs_t (o := opAt ops) (x := x) (s := s) (d := d) hl ops.size (fun j h1 h2 h3 e => (lo j h1 h3).t12 d e hdm) (fun j h1 h2 h3 e => (hi' j h1 h2 h3).t21 d e hdm)
      rwa [em] at this
    have ah : ∀ g, (g ∈ (x i).rh ∨ ∃ p ∈ (x i).e.wr, p.1 = g) → (fs (opAt ops) x (listedL l) s ops.size).2 g = (fs (opAt ops) x all1 s i).2 g := by
      intro g hg
      have := fs_h (o := opAt ops) (x := x) (s := s) (g := g) hl ops.size
        (fun j h1 h2 h3 p hp e => by
          rcases hg with hg | ⟨q, hq, rfl⟩
          · exact (lo j h1 h3).h12 p hp (e ▸ hg)
          · exact (lo j h1 h3).hh p hp q hq e)
        (fun j h1 h2 h3 p hp e => by
          rcases hg with hg | ⟨q, hq, rfl⟩
          · exact (hi' j h1 h2 h3).h21 p hp (e ▸ hg)
          · exact (hi' j h1 h2 h3).hh q hq p hp e.symm)
      rwa [em] at this
    obtain ⟨g1, g2, g3⟩ := pl.good i hin
    have hadd : fs (opAt ops) x (listedL (l.setIfInBounds i true)) s ops.size = appF (fs (opAt ops) x (listedL l) s ops.size) (opAt ops i) (x i) := by
      rw [← fs_add hl ops.size hin hi', listed_set (by omega)]
    have hdown : Down ops (listedL (l.setIfInBounds i true)) := by
      intro j hj hjl p hpm
      rw [listed_set (by omega)] at hjl ⊢
      simp only [addL] at hjl ⊢
      split
      · rfl
      · by_cases h : j = i
        · subst h; exact hp p hpm
        · rw [if_neg h] at hjl
          exact hd j hj hjl p hpm
    have hcount : (List.range ops.size).countP (fun k => !listedL (l.setIfInBounds i true) k) ≤ fuel := by
      rw [listed_set (by omega)]
      have := cnt_lt hl ops.size hin
      omega
    unfold wpOp
    simp only [ho]
    have hw : wantedA ops (opAt ops i) (fs (opAt ops) x (listedL l) s ops.size).1 = some (x i).want := (wantedA_congr at_).trans g1
    split
    · rename_i hwt
      rw [wanted_of r hw] at hwt
      refine .inl (g2 hwt _ _ at_ (fun g hg => ah g (.inl hg)) (fun p hp => ah p.1 (.inr ⟨p, hp, rfl⟩)) B a w r _ _ fun B' a' w' r' => ?_)
      refine ih _ B' a' w' (by simpa using hs) hdown hcount ?_
      rw [hadd]
      exact r'
    · rename_i hwt
      rw [wanted_of r hw] at hwt
      obtain ⟨h1, h2⟩ := g3 (by simpa using hwt)
      refine ih _ B _ w (by simpa using hs) hdown hcount ?_
      rw [hadd, appF, h2]
      exact r.undef h1

/-- a region that draws its order -/
theorem wpAny_ops {S : St} {K : St → List Rec → Prop} (hK : ∀ S' rs, K S' rs → orderOk ops rs = true ∧ ∀ B a w, Rel E nt B S'.t S'.h a w → Q .normal a w) (h : AWops P E nt ops ops.toList S [] K) {B : Blk} {a : Act} {w : World} (r : Rel E nt B S.t S.h a w) :
    wpAny P .any ops Q ops.size (Array.replicate ops.size false) a w := by
  obtain ⟨xs, h1, ⟨S', h2, h3⟩, h4⟩ := AWops_ex _ _ _ h
  obtain ⟨hok, hQ⟩ := hK _ _ h2
  rw [List.nil_append] at hok
  unfold orderOk at hok
  simp only [Bool.and_eq_true, decide_eq_true_eq] at hok
  obtain ⟨⟨⟨k1, k2⟩, k3⟩, k4⟩ := hok
  have hl : ops.toList.length = ops.size := by simp
  rw [hl] at h1 h3 h4 k2 k4
  let x : Nat → ERec := fun i => xs.getD i default
  have hx : ∀ i, i < ops.size → (xs.map ERec.rec_).getD i ⟨[], []⟩ = (x i).rec_ := by
    intro i hi
    have : i < xs.length := by omega
    simp [x, List.getD_eq_getElem?_getD, this]
  have pl : Plan P E nt ops x (S.t, S.h) (masks ops.toList []) := by
    refine ⟨h4, fun j hj p hp => ?_, k3, fun j hj i hi => ?_⟩
    · rw [List.all_eq_true] at k2
      have := k2 j (by simpa using hj)
      rw [List.all_eq_true] at this
      simpa using this p hp
    · rw [List.all_eq_true] at k4
      have h5 := k4 j (by simpa using hj)
      rw [List.all_eq_true] at h5
      have h6 := h5 i (by simpa using hi)
      rw [Bool.or_eq_true] at h6
      refine h6.imp id fun h7 => ?_
      rw [hx i (by omega), hx j hj] at h7
      exact noClash (by simpa using h7)
  have hfin : fs (opAt ops) x all1 (S.t, S.h) ops.size = (S'.t, S'.h) := h3.symm
  have e0 : ∀ i, listedL (Array.replicate ops.size false) i = false := by
    intro i
    simp only [listedL, Array.getD_eq_getD_getElem?, Array.getElem?_replicate]
    split <;> rfl
  have est : ∀ k, fs (opAt ops) x (listedL (Array.replicate ops.size false)) (S.t, S.h) k = (S.t, S.h) := by
    intro k
    induction k with
    | zero => rfl
    | succ k ih => simp only [fs, e0 k]; exact ih
  refine wpAny_plan pl (fun B a w r' => ?_) ops.size _ B a w (by simp) (fun j hj h => by rw [e0] at h; cases h) ?_ ?_
  · rw [hfin] at r'
    exact hQ B a w r'
  · have := List.countP_le_length (p := fun i => !listedL (Array.replicate ops.size false) i) (l := List.range ops.size)
    simpa using this
  · rw [est]; exact r
end
end Go.Proofs.Ytphojngdgmnpaaa

namespace Go.Proofs.Ytphojngdgmnpaaa
open Go Go.RowKit
set_option linter.unusedVariables false
set_option linter.unusedSimpArgs false
set_option maxRecDepth 100000

def evalO (T : Nat → Option AV) : Operand → Option AV
  | .tmp t => T t
  | .const v => if plain v then some (.v v) else none
  | .func f => some (.fn (.func f) [] [])
  | .global _ => none
section
variable {E : Env} {nt : Nat} {B : Blk} {T : Nat → Option AV} {H : Hp} {a : Act} {w : World}
theorem Rel.eval (r : Rel E nt B T H a w) {x : Operand} {v : AV} (h : evalO T x = some v) : Rdv (unst E B H) w B H v (a.eval x) := by
  cases x with
  | tmp t =>
    obtain ⟨u, h1, h2⟩ := r.tmp t v h
    have : a.eval (.tmp t) = u := by simp [Act.eval, h1]
    rw [this]; exact h2
  | const c =>
    simp only [evalO] at h
    split at h
    · rename_i hp
      injection h with h
      subst h
      rw [Rdv_not (by simp)]
      exact ⟨[c], by simp [Rd, hp], rfl⟩
    · cases h
  | func f =>
    simp only [evalO] at h
    injection h with h
    subst h
    rw [Rdv_not (by simp)]
    exact ⟨_, by simp only [Rd]; exact ⟨[], [], rfl, by simp [Rdp], by simp [Rdp]⟩, rfl⟩
  | global g => simp [evalO] at h
theorem Rdv_v {U : Uns} {x : Value} {v : Value} : Rdv U w B H (.v x) v ↔ plain x = true ∧ v = x := by
  rw [Rdv_not (by simp)]
  constructor
  · rintro ⟨c, h1, h2⟩
    simp only [Rd] at h1
    obtain ⟨h1, rfl⟩ := h1
    exact ⟨h1, h2⟩
  · rintro ⟨h1, rfl⟩
    exact ⟨[v], by simp [Rd, h1], rfl⟩
theorem Rel.evalv (r : Rel E nt B T H a w) {x : Operand} {v : Value} (h : evalO T x = some (.v v)) : a.eval x = v := (Rdv_v.1 (r.eval h)).2
theorem Rel.evalp (r : Rel E nt B T H a w) {x : Operand} {v : Value} (h : evalO T x = some (.v v)) : plain v = true := (Rdv_v.1 (r.eval h)).1
theorem Rel.drew (r : Rel E nt B T H a w) : Rel E nt B T H a w.drew := ⟨r.nt, r.df, fun s x h => by
    obtain ⟨v, h1, h2⟩ := r.tmp s x h
    exact ⟨v, h1, Rdv_go (Evo.ofExt (Ext.refl w).drew) (fun _ _ _ h => h) ⟨fun _ _ _ h => h, fun _ h => h, fun _ _ _ _ _ h => h, fun _ _ _ _ _ h => h⟩ h2⟩, fun g bx h => by
    have hb := r.box g bx h
    have p : Pic w w.drew B B H H := ⟨fun _ _ _ h => h, fun _ h => h, fun _ _ _ _ _ h => h, fun _ _ _ _ _ h => h⟩
    cases bx with
    | var x =>
      obtain ⟨b, cs, t, h1, h2, h3, h4⟩ := hb
      exact ⟨b, cs, t, h1, h2, Rd_go (Evo.ofExt (Ext.refl w).drew) (fun _ _ _ h => h) x p h3, h4⟩
    | froz x =>
      obtain ⟨b, cs, h1, h2, h3, h4⟩ := hb
      exact ⟨b, cs, h1, h2, h3, Rd_go (Evo.ofExt (Ext.refl w).drew) (fun _ _ _ h => h) x p h4⟩
    | tail e n k => exact hb
    | own e n xs =>
      refine ⟨hb.1, hb.2.1, hb.2.2.imp id ?_⟩
      rintro ⟨b, cur, cap, c, k1, k2, k3, k4, k5, k6, k7, k8⟩
      exact ⟨b, cur, cap, c, k1, k2, k3, k4, k5, k6, Rdu_go (Evo.ofExt (Ext.refl w).drew) (fun _ _ _ h => h) n xs (Pic.refl0 _ _) k7, k8⟩, r.non, r.inj, ⟨r.left.os, r.left.tape, r.left.output, r.left.size, r.left.block, r.left.evo.trans (Evo.ofExt (Ext.refl w).drew)⟩, r.keep⟩
end

def AW (P : Program) (E : Env) (nt : Nat) (c : Code) (S : St) (Q : Exit → St → Prop) : Prop :=
  ∀ B a w, Rel E nt B S.t S.h a w → c.wp P (fun e a' w' => ∃ B' S', Rel E nt B' S'.t S'.h a' w' ∧ Q e S') a w
def thenA (K : St → Prop) (Q : Exit → St → Prop) : Exit → St → Prop
  | .normal, S => K S
  | .outgrown, _ => False
  | e, S => Q e S
def inBlockA (id : Nat) (Q : Exit → St → Prop) : Exit → St → Prop
  | .exit id', S => if id' = id then Q .normal S else Q (.exit id') S
  | e, S => Q e S
def noGotoA (Q : Exit → St → Prop) : Exit → St → Prop
  | .goto _, _ => False
  | e, S => Q e S
section
variable {P : Program} {E : Env} {nt : Nat} {S : St} {Q : Exit → St → Prop}
theorem AW.mono {c : Code} {Q' : Exit → St → Prop} (h : AW P E nt c S Q) (hq : ∀ e S, Q e S → Q' e S) : AW P E nt c S Q' := fun B a w r =>
  wp_mono (h B a w r) fun e a w ⟨B', S', h1, h2⟩ => ⟨B', S', h1, hq _ _ h2⟩
theorem AW_skip (h : Q .normal S) : AW P E nt .skip S Q := fun B a w r => wp_skip ⟨B, S, r, h⟩
theorem AW_ret (h : Q .ret S) : AW P E nt .ret S Q := fun B a w r => wp_ret ⟨B, S, r, h⟩
theorem AW_exit {id : Nat} (h : Q (.exit id) S) : AW P E nt (.exit id) S Q := fun B a w r => wp_exit ⟨B, S, r, h⟩
theorem AW_seq {x y : Code} (h : AW P E nt x S (thenA (fun S' => AW P E nt y S' Q) Q)) : AW P E nt (.seq x y) S Q := fun B a w r =>
  wp_seq (wp_mono (h B a w r) fun e a w ⟨B', S', h1, h2⟩ => by
    cases e with
    | normal => exact h2 B' a w h1
    | outgrown => exact h2.elim
    | exit id => exact ⟨B', S', h1, h2⟩
    | goto l => exact ⟨B', S', h1, h2⟩
    | ret => exact ⟨B', S', h1, h2⟩
    | panic c => exact ⟨B', S', h1, h2⟩)
theorem AW_block {id : Nat} {c : Code} (h : AW P E nt c S (inBlockA id Q)) : AW P E nt (.block id c) S Q := fun B a w r =>
  wp_block (wp_mono (h B a w r) fun e a w ⟨B', S', h1, h2⟩ => by
    cases e with
    | exit id' =>
      simp only [inBlockA] at h2
      simp only [Exit.inBlock]
      split
      · rename_i he; rw [if_pos he] at h2; exact ⟨B', S', h1, h2⟩
      · rename_i he; rw [if_neg he] at h2; exact ⟨B', S', h1, h2⟩
    | normal => exact ⟨B', S', h1, h2⟩
    | outgrown => exact ⟨B', S', h1, h2⟩
    | goto l => exact ⟨B', S', h1, h2⟩
    | ret => exact ⟨B', S', h1, h2⟩
    | panic c => exact ⟨B', S', h1, h2⟩)
theorem AW_scope {c : Code} (h : AW P E nt c S (noGotoA Q)) : AW P E nt (.scope c) S Q := fun B a w r =>
  wp_scope_straight (wp_mono (h B a w r) fun e a w ⟨B', S', h1, h2⟩ => by
    cases e with
    | goto l => exact h2.elim
    | normal => exact ⟨B', S', h1, h2⟩
    | outgrown => exact ⟨B', S', h1, h2⟩
    | exit l => exact ⟨B', S', h1, h2⟩
    | ret => exact ⟨B', S', h1, h2⟩
    | panic c => exact ⟨B', S', h1, h2⟩)
theorem AW_cond {c : Operand} {x y : Code} (b : Bool) (hc : evalO S.t c = some (.v (.bool b))) (h1 : b = true → AW P E nt x S Q) (h2 : b = false → AW P E nt y S Q) : AW P E nt (.cond c x y) S Q := fun B a w r =>
  wp_cond_split (r.evalv hc) (fun hb => h1 hb B a w r) (fun hb => h2 hb B a w r)
theorem AW_region {id : Nat} {ops : Array Oper} (h : AWops P E nt ops ops.toList S [] (fun S' _ => Q .normal S')) : AW P E nt (.region id ops false) S Q := fun B a w r => by
  refine wp_region ?_
  have := wpOps_seq (P := P) (Q := fun e a' w' => ∃ B' S', Rel E nt B' S'.t S'.h a' w' ∧ Q e S') (fun S rs hK B a w r => ⟨B, S, r, hK⟩) ops.toList 0 S [] B a w rfl h r
  rw [List.range_eq_range']
  simpa using this
theorem AW_draw {id : Nat} {ops : Array Oper} (hm : P.follows .mixedOrders = true) (h : AWops P E nt ops ops.toList S [] (fun S' rs => orderOk ops rs = true ∧ Q .normal S')) : AW P E nt (.region id ops true) S Q := fun B a w r =>
  wp_region_any hm (wpAny_ops (Q := fun e a' w' => ∃ B' S', Rel E nt B' S'.t S'.h a' w' ∧ Q e S') (fun S rs hK => ⟨hK.1, fun B a w r => ⟨B, S, r, hK.2⟩⟩) h r.drew)
theorem AW_loop {c : Code} {ι : Type} (I : ι → St) (J : ι → Prop) (μ : ι → Nat) (h0 : ∃ i, J i ∧ ∀ B a w, Rel E nt B S.t S.h a w → Rel E nt B (I i).t (I i).h a w)
    (round : ∀ i, J i → AW P E nt c (I i) (thenA (fun S' => ∃ j, J j ∧ μ j < μ i ∧ ∀ B a w, Rel E nt B S'.t S'.h a w → Rel E nt B (I j).t (I j).h a w) Q)) : AW P E nt (.loop c) S Q := by
  intro B a w r
  obtain ⟨i0, j0, s0⟩ := h0
  -- the measure counts on the index, which no frame bears: by induction on it
  have key : ∀ n i, μ i = n → J i → ∀ B a w, Rel E nt B (I i).t (I i).h a w → ∀ (b : Frame) (k : List Item) (cs : List Frame),
      ∃ e a' w', (∃ B' S', Rel E nt B' S'.t S'.h a' w' ∧ Q e S') ∧ Arrives P (lone (b.at a (.code c :: .inLoop c :: k)) cs w) b k cs e a' w' := by
    intro n
    induction n using Nat.strongRecOn with
    | _ n ih =>
      intro i hn hJ B a w r b k cs
      obtain ⟨e, a₁, w₁, ⟨B₁, S₁, r₁, hq⟩, harr⟩ := round i hJ B a w r b (.inLoop c :: k) cs
      cases e with
      | normal =>
        obtain ⟨j, hJj, hlt, hsub⟩ := hq
        obtain ⟨e₂, a₂, w₂, hq₂, harr₂⟩ := ih (μ j) (hn ▸ hlt) j rfl hJj B₁ a₁ w₁ (hsub _ _ _ r₁) b k cs
        exact ⟨e₂, a₂, w₂, hq₂, .of_steps (Steps.trans harr (.one step_inLoop)) harr₂⟩
      | exit id => exact ⟨_, a₁, w₁, ⟨B₁, S₁, r₁, hq⟩, .pass (x := .inLoop c) rfl (fun _ _ => .inl (by simp)) harr⟩
      | goto l => exact ⟨_, a₁, w₁, ⟨B₁, S₁, r₁, hq⟩, .pass (x := .inLoop c) rfl (fun _ _ => .inl (by simp)) harr⟩
      | ret => exact ⟨_, a₁, w₁, ⟨B₁, S₁, r₁, hq⟩, .pass (x := .inLoop c) rfl (fun _ _ => .inl (by simp)) harr⟩
      | panic ch => exact ⟨_, a₁, w₁, ⟨B₁, S₁, r₁, hq⟩, .pass (x := .inLoop c) rfl (fun _ _ => .inl (by simp)) harr⟩
      | outgrown => exact hq.elim
  intro b k cs
  obtain ⟨e, a', w', hq, harr⟩ := key _ i0 rfl j0 B a w (s0 _ _ _ r) b k cs
  exact ⟨e, a', w', hq, .of_steps (.one step_loop) harr⟩
end

end Go.Proofs.Ytphojngdgmnpaaa

namespace Go.Proofs.Ytphojngdgmnpaaa
open Go Go.RowKit
set_option linter.unusedVariables false
set_option linter.unusedSimpArgs false
set_option maxRecDepth 100000

mutual
/-- no address of the function's own -/
def dataA : AV → Bool
  | .v _ => true
  | .agg _ fs => dataL fs
  | .arr _ _ _ => true
  | .ref _ => true
  | .sl none _ _ => true
  | .sl (some _) _ _ => false
  | .ptr _ _ _ => false
  | .seg _ _ _ _ _ _ => false
  | .tup vs => dataL vs
  | .fn _ a b => dataL a && dataL b
  | .ifc _ x => dataA x
  | .own _ _ _ _ => false
def dataL : List AV → Bool
  | [] => true
  | x :: l => dataA x && dataL l
end
section
variable {U : Uns} {w : World} {B B' : Blk} {H H' : Hp}
mutual
theorem Rd_data : ∀ (x : AV), dataA x = true → ∀ {cs : List Value}, Rd U w x B H cs → Rd U w x B' H' cs
  | .v x, _, _, h => by simpa [Rd] using h
  | .agg n fs, d, _, h => by
    simp only [Rd] at h ⊢
    exact ⟨h.1, Rds_data fs (by simpa [dataA] using d) h.2⟩
  | .arr m n xs, _, _, h => by simpa [Rd] using h
  | .ref x, _, _, h => by simpa [Rd] using h
  | .sl none n xs, _, _, h => by simpa [Rd] using h
  | .sl (some t) n xs, d, _, _ => by simp [dataA] at d
  | .ptr _ _ _, d, _, _ => by simp [dataA] at d
  | .seg _ _ _ _ _ _, d, _, _ => by simp [dataA] at d
  | .tup _, _, _, h => by simp [Rd] at h
  | .fn f a b, d, _, h => by
    simp only [Rd] at h ⊢
    simp only [dataA, Bool.and_eq_true] at d
    obtain ⟨c1, c2, h1, h2, h3⟩ := h
    exact ⟨c1, c2, h1, Rdp_data a d.1 h2, Rdp_data b d.2 h3⟩
  | .ifc t x, d, _, h => by
    simp only [Rd] at h ⊢
    obtain ⟨c, h1, h2⟩ := h
    exact ⟨c, Rd_data x (by simpa [dataA] using d) h1, h2⟩
  | .own _ _ _ _, d, _, h => by simp [dataA] at d
theorem Rds_data : ∀ (xs : List AV), dataL xs = true → ∀ {cs : List Value}, Rds U w xs B H cs → Rds U w xs B' H' cs
  | [], _, _, h => by simpa [Rds] using h
  | x :: xs, d, _, h => by
    simp only [Rds] at h ⊢
    simp only [dataL, Bool.and_eq_true] at d
    obtain ⟨c1, c2, h1, h2, h3⟩ := h
    exact ⟨c1, c2, h1, Rd_data x d.1 h2, Rds_data xs d.2 h3⟩
theorem Rdp_data : ∀ (xs : List AV), dataL xs = true → ∀ {cs : List Value}, Rdp U w xs B H cs → Rdp U w xs B' H' cs
  | [], _, _, h => by simpa [Rdp] using h
  | x :: xs, d, _, h => by
    simp only [Rdp] at h ⊢
    simp only [dataL, Bool.and_eq_true] at d
    obtain ⟨c, vs, h1, h2, h3⟩ := h
    exact ⟨c, vs, h1, Rd_data x d.1 h2, Rdp_data xs d.2 h3⟩
end
/-- what plain data reads as, it reads as behind whatever boxes -/
theorem Rd_free : ∀ (x : AV) {cs : List Value}, Rd U w x B0 H0 cs → Rd U w x B H cs := fun x cs h =>
  Rd_go (Evo.refl U w) (fun _ _ _ h => h) x ⟨fun g b h _ => by simp [H0, isVar] at h, fun g h => by simp [H0, isVar] at h, fun t n len A cap h => by obtain ⟨e, k, h, _⟩ := h; simp [H0] at h, fun g n len k v h => by obtain ⟨e, xs, h, _⟩ := h; simp [H0] at h⟩ h
theorem Rdv_free {x : AV} {v : Value} (h : Rdv U w B0 H0 x v) : Rdv U w B H x v :=
  Rdv_go (Evo.refl U w) (fun _ _ _ h => h) ⟨fun g b h _ => by simp [H0, isVar] at h, fun g h => by simp [H0, isVar] at h, fun t n len A cap h => by obtain ⟨e, k, h, _⟩ := h; simp [H0] at h, fun g n len k v h => by obtain ⟨e, xs, h, _⟩ := h; simp [H0] at h⟩ h
theorem Rdv_sub {U' : Uns} (hU : ∀ b o, U' b o → U b o) {x : AV} {v : Value} (h : Rdv U w B H x v) : Rdv U' w B H x v :=
  Rdv_go (Evo.refl U w) (fun b o _ h => hU b o h) ⟨fun _ _ _ h => h, fun _ h => h, fun _ _ _ _ _ h => h, fun _ _ _ _ _ h => h⟩ h
end

section
variable {E : Env} {nt : Nat} {B : Blk} {T : Nat → Option AV} {H : Hp} {a : Act} {w w' : World}
theorem TokOk.ext {t n len cap : Nat} {A : Option Addr} (h : TokOk w B H t n len A cap) (e : Ext w w') : TokOk w' B H t n len A cap := by
  obtain ⟨ty, k, h1, h2, h3⟩ := h
  refine ⟨ty, k, h1, h2, fun hk => ⟨(h3 hk).1, fun b hb => ?_⟩⟩
  obtain ⟨h4, cur, h5, h6⟩ := (h3 hk).2 b hb
  exact ⟨h4, cur, e.heap h5, h6⟩
theorem Pic.ext (e : Ext w w') : Pic w w' B B H H := ⟨fun _ _ _ h => h, fun _ h => h, fun _ _ _ _ _ h => h.ext e, ownPic (Evo.ofExt (U := fun _ _ => False) e) (fun _ _ _ _ h => ⟨h, rfl⟩)⟩
theorem Left.ext (l : Left E w) (e : Ext w w') : Left E w' :=
  ⟨e.os.trans l.os, e.tape.trans l.tape, e.output.trans l.output, Nat.le_trans l.size e.size, fun k hk he => (e.block k (Nat.lt_of_lt_of_le hk l.size)).trans (l.block k hk he), l.evo.trans (Evo.ofExt e)⟩
theorem Rel.ext (r : Rel E nt B T H a w) (e : Ext w w') : Rel E nt B T H a w' := ⟨r.nt, r.df, fun s x h => by
    obtain ⟨v, h1, h2⟩ := r.tmp s x h
    exact ⟨v, h1, Rdv_go (Evo.ofExt e) (fun _ _ _ h => h) (Pic.ext e) h2⟩, fun g bx h => by
    have hb := r.box g bx h
    cases bx with
    | var x =>
      obtain ⟨b, cs, t, h1, h2, h3, h4⟩ := hb
      exact ⟨b, cs, t, h1, e.heap h2, Rd_go (Evo.ofExt e) (fun _ _ _ h => h) x (Pic.ext e) h3, h4⟩
    | froz x =>
      obtain ⟨b, cs, h1, h2, h3, h4⟩ := hb
      exact ⟨b, cs, h1, e.row h2, h3, Rd_go (Evo.ofExt e) (fun _ _ _ h => h) x (Pic.ext e) h4⟩
    | tail ty n k =>
      obtain ⟨h0, hT, h1⟩ := hb
      refine ⟨h0, hT, h1.imp id ?_⟩
      rintro ⟨b, cur, cap, k1, k2, k3⟩
      exact ⟨b, cur, cap, k1, e.heap k2, k3⟩
    | own ty n xs =>
      obtain ⟨h0, hT, h1⟩ := hb
      refine ⟨h0, hT, h1.imp id ?_⟩
      rintro ⟨b, cur, cap, c, k1, k2, k3, k4, k5, k6, k7, k8⟩
      exact ⟨b, cur, cap, c, k1, e.heap k2, k3, k4, k5, k6, Rdu_go (Evo.ofExt e) (fun _ _ _ h => h) n xs (Pic.refl0 _ _) k7, k8⟩, r.non, r.inj, r.left.ext e, r.keep⟩
theorem unst0 (E : Env) : unst E B0 H0 = fun b o => b < E.w0.heap.size ∧ E.X b o ∧ ¬ E.ent b := by
  funext b o
  simp [unst, B0]
end

/-! ### what a function computes -/
def AFn (P : Program) (f : FuncId) (args : List AV) (r : AV) : Prop :=
  ∀ (U : Uns) (w : World) (vs : List Value), Rdp U w args B0 H0 vs → Calls P f vs.toArray w fun e w' => ∃ v, e = .returned v ∧ Rdv (fun b o => b < w.heap.size ∧ U b o) w' B0 H0 r v ∧ Ext w w'
def bindsA : Nat → List AV → List (Nat × AV)
  | _, [] => []
  | i, x :: l => (i, x) :: bindsA (i + 1) l
/-- x may be read as y where no box is known: y bears no address of the function's own -/
def Wk (H : Hp) (x y : AV) : Prop := ∀ U w B c, Rd U w x B H c → Rd U w y B0 H0 c ∧ pack x c = pack y c
theorem Wk.data {H : Hp} {x : AV} (h : dataA x = true) : Wk H x x := fun U w B c hr => ⟨Rd_data x h hr, rfl⟩
theorem Wk.tok {H : Hp} {t : Option Nat} {n : Nat} {xs : List AV} : Wk H (.sl t n xs) (.sl none n xs) := fun U w B c hr => by
  simp only [Rd] at hr ⊢
  obtain ⟨A, cap, h1, h2, h3, h4, _⟩ := hr
  refine ⟨⟨A, cap, h1, h2, h3, h4, fun t ht => by cases ht⟩, ?_⟩
  subst h1; rfl
theorem Wk.nil {H : Hp} {n : Nat} : Wk H (.v (.slice none 0 0)) (.sl none n []) := fun U w B c hr => by
  simp only [Rd] at hr ⊢
  obtain ⟨_, rfl⟩ := hr
  exact ⟨⟨none, 0, rfl, Nat.le_refl _, Nat.zero_le _, fun h => absurd h (by simp), fun t ht => by cases ht⟩, rfl⟩
inductive WkL (H : Hp) : List AV → List AV → Prop
  | nil : WkL H [] []
  | cons {x y : AV} {xs ys : List AV} (h : Wk H x y) (t : WkL H xs ys) : WkL H (x :: xs) (y :: ys)
theorem Wk.agg {H : Hp} {n : Nat} {xs ys : List AV} (h : WkL H xs ys) : Wk H (.agg n xs) (.agg n ys) := fun U w B c hr => by
  simp only [Rd] at hr ⊢
  obtain ⟨h1, h2⟩ := hr
  refine ⟨⟨h1, ?_⟩, rfl⟩
  clear h1
  induction h generalizing c with
  | nil => simpa [Rds] using h2
  | cons hx _ ih =>
    simp only [Rds] at h2 ⊢
    obtain ⟨c1, c2, e, k1, k2⟩ := h2
    exact ⟨c1, c2, e, (hx _ _ _ _ k1).1, ih _ k2⟩
theorem WkL.rdp {H : Hp} {U : Uns} {w : World} {B : Blk} {xs ys : List AV} (h : WkL H xs ys) {vs : List Value} (hr : Rdp U w xs B H vs) : Rdp U w ys B0 H0 vs := by
  induction h generalizing vs with
  | nil => simpa [Rdp] using hr
  | cons hx _ ih =>
    simp only [Rdp] at hr ⊢
    obtain ⟨c, vs', e, k1, k2⟩ := hr
    obtain ⟨k3, k4⟩ := hx _ _ _ _ k1
    exact ⟨c, vs', by rw [e, k4], k3, ih k2⟩

def isAggA : AV → Bool
  | .agg _ _ => true
  | .arr _ _ _ => true
  | _ => false
def sizeA : AV → Nat
  | .agg n _ => n
  | .arr m _ _ => m
  | _ => 1
theorem Rd_len {U : Uns} {w : World} {B : Blk} {H : Hp} {x : AV} {c : List Value} (h : Rd U w x B H c) : c.length = sizeA x := by
  cases x <;> simp only [Rd] at h <;> simp only [sizeA]
  case v => rw [h.2]; rfl
  case agg => exact h.1
  case arr => exact h.1
  case ptr => obtain ⟨_, b, _, rfl⟩ := h; rfl
  case ref => obtain ⟨b, off, c, rfl, _⟩ := h; rfl
  case sl => obtain ⟨A, cap, rfl, _⟩ := h; rfl
  case seg => obtain ⟨_, b, _, _, _, rfl⟩ := h; rfl
  case fn => obtain ⟨c1, c2, rfl, _⟩ := h; rfl
  case ifc => obtain ⟨c, _, rfl⟩ := h; rfl
  case own => obtain ⟨v, _, rfl⟩ := h; rfl
theorem Rd_pack {U : Uns} {w : World} {B : Blk} {H : Hp} {x : AV} {c : List Value} (h : Rd U w x B H c) : (isAggA x = true → pack x c = .agg c.toArray) ∧ (isAggA x = false → c = [pack x c]) := by
  cases x <;> simp only [Rd] at h <;> simp only [isAggA]
  case v => obtain ⟨_, rfl⟩ := h; simp [pack]
  case agg => simp [pack]
  case arr => simp [pack]
  case ptr => obtain ⟨_, b, _, rfl⟩ := h; simp [pack]
  case ref => obtain ⟨b, off, c, rfl, _⟩ := h; simp [pack]
  case sl => obtain ⟨A, cap, rfl, _⟩ := h; simp [pack]
  case seg => obtain ⟨_, b, _, _, _, rfl⟩ := h; simp [pack]
  case fn => obtain ⟨c1, c2, rfl, _⟩ := h; simp [pack]
  case ifc => obtain ⟨c, _, rfl⟩ := h; simp [pack]
  case own => obtain ⟨v, _, rfl⟩ := h; simp [pack]
/-- type t's values are of so many cells, a struct's or an array's or of one cell -/
def aggD : TypeDesc → Bool
  | .struct _ => true
  | .array _ _ => true
  | _ => false
def TyOf (P : Program) (t : TypeId) (agg : Bool) (n : Nat) : Prop :=
  ∃ d, P.underlying t = some d ∧ aggD d = agg ∧ (P.info? t).map (·.size) = some n
theorem run_loadVar_of {P : Program} {t : TypeId} {agg : Bool} {n : Nat} (ht : TyOf P t agg n) {b off : Nat} {w : World} {cs : List Value} (h : row? w b off n = some cs.toArray) (h1 : agg = false → n = 1) :
    (loadVar t ⟨b, off, none⟩).run P w = .ok (if agg then .agg cs.toArray else cs.headD undef) w := by
  obtain ⟨d, hu, hd, hi⟩ := ht
  cases agg
  · obtain rfl := h1 rfl
    have hagg : (isAgg t).run P w = .ok false w := by
      unfold isAgg
      rw [Sem.run_bind, run_underlying hu w]
      cases d <;> simp_all [aggD]
    obtain ⟨hs, hc⟩ := row_cells h
    have h0 := hc 0 (by omega)
    obtain ⟨v, rfl⟩ : ∃ v, cs = [v] := by
      match cs, hs with
      | [v], _ => exact ⟨v, rfl⟩
    have hcell : w.cell? ⟨b, off, none⟩ = some v := by simpa using h0
    simp [loadVar, Sem.run_bind, hagg, load, Sem.run, hcell]
  · simp only [if_true]
    exact run_loadVar_at hu (by cases d <;> simp_all [aggD]) hi h

/-- what a result reads as when the function is left -/
def Res1 (P : Program) (S : St) : ResultVar → AV → Prop
  | .tmp t, y => ∃ x, S.t t = some x ∧ (∀ xs, x ≠ .tup xs) ∧ Wk S.h x y
  | .cell a t, y => ∃ g x, S.t a = some (.ptr g 0 []) ∧ S.h g = some (.var x) ∧ TyOf P t (isAggA x) (sizeA x) ∧ Wk S.h x y
def ResL (P : Program) (S : St) : List ResultVar → List AV → Prop
  | [], [] => True
  | r :: rs, y :: ys => Res1 P S r y ∧ ResL P S rs ys
  | [], _ :: _ => False
  | _ :: _, [] => False
def resA : List AV → AV
  | [x] => x
  | xs => .tup xs
section
variable {P : Program} {E : Env} {nt : Nat} {B : Blk} {S : St} {a : Act} {w : World}
theorem res1_run (r : Rel E nt B S.t S.h a w) {v : ResultVar} {y : AV} (h : Res1 P S v y) : ∃ c, (resOf a.tmps v).run P w = .ok (pack y c) w ∧ Rd (unst E B S.h) w y B0 H0 c := by
  cases v with
  | tmp t =>
    obtain ⟨x, h1, h2, h3⟩ := h
    obtain ⟨u, h4, h5⟩ := r.tmp t x h1
    rw [Rdv_not h2] at h5
    obtain ⟨c, h6, rfl⟩ := h5
    obtain ⟨h7, h8⟩ := h3 _ _ _ _ h6
    refine ⟨c, ?_, h7⟩
    rw [← h8]
    have : a.tmps.getD t undef = pack x c := by simp [Array.getD_eq_getD_getElem?, h4]
    simp only [resOf, this]; rfl
  | cell ad t =>
    obtain ⟨g, x, h1, h2, h3, h4⟩ := h
    obtain ⟨u, h5, h6⟩ := r.tmp ad _ h1
    rw [Rdv_not (by simp)] at h6
    obtain ⟨c, h7, rfl⟩ := h6
    simp only [Rd] at h7
    obtain ⟨_, b, h8, rfl⟩ := h7
    obtain ⟨b', cs, ty, k1, k2, k3, _⟩ := r.box g _ h2
    rw [h8] at k1
    injection k1 with k1
    subst k1
    have hl := Rd_len k3
    have hrow : row? w b 0 (sizeA x) = some cs.toArray := by rw [row_block k2]; exact rowOf_full _ _ (by simpa using hl)
    obtain ⟨k4, k5⟩ := h4 _ _ _ _ k3
    refine ⟨cs, ?_, k4⟩
    have hv := run_loadVar_of h3 hrow (by intro h; cases x <;> simp_all [isAggA, sizeA])
    have : a.tmps.getD ad undef = .pointer (some ⟨b, 0, none⟩) := by simp [Array.getD_eq_getD_getElem?, h5, pack]
    simp only [resOf, this, asAddr, Sem.run_bind, Sem.run_pure, Result.andThen_ok, hv]
    rw [← k5]
    cases hx : isAggA x
    · have he := (Rd_pack k3).2 hx
      obtain ⟨v, rfl⟩ : ∃ v, cs = [v] := ⟨_, he⟩
      simp at he
      simp [← he]
    · simp [(Rd_pack k3).1 hx]
theorem resL_run (r : Rel E nt B S.t S.h a w) : ∀ (vs : List ResultVar) (ys : List AV), ResL P S vs ys → ∃ us : List Value, (vs.mapM (resOf a.tmps)).run P w = .ok us w ∧ us.length = vs.length ∧ Rdp (unst E B S.h) w ys B0 H0 us
  | [], [], _ => ⟨[], rfl, rfl, by simp [Rdp]⟩
  | v :: vs, y :: ys, h => by
    obtain ⟨h1, h2⟩ := h
    obtain ⟨c, k1, k2⟩ := res1_run r h1
    obtain ⟨us, k3, k4, k5⟩ := resL_run r vs ys h2
    refine ⟨pack y c :: us, ?_, by simp [k4], by simp only [Rdp]; exact ⟨c, us, rfl, k2, k5⟩⟩
    simp [List.mapM_cons, k1, k3]
  | [], _ :: _, h => h.elim
  | _ :: _, [], h => h.elim
end
theorem mapM_arr {α β : Type} (f : α → Sem β) (l : List α) (P : Program) (w : World) (us : List β) (h : (l.mapM f).run P w = .ok us w) : (l.toArray.mapM f).run P w = .ok us.toArray w := by
  rw [List.mapM_toArray, map_eq_pure_bind, Sem.run_bind, h]
  rfl

theorem bindsA_look : ∀ (args : List AV) (i k : Nat), look k (bindsA i args) = if i ≤ k then args[k - i]? else none
  | [], i, k => by simp [bindsA, look]
  | x :: l, i, k => by
    simp only [bindsA, look]
    cases hb : Nat.beq i k
    · have hne : i ≠ k := fun e => by subst e; simp at hb
      simp only [cond_false]
      rw [bindsA_look l (i + 1) k]
      by_cases h : i ≤ k
      · rw [if_pos (by omega), if_pos h]
        have : k - i = (k - (i + 1)) + 1 := by omega
        rw [this, List.getElem?_cons_succ]
      · rw [if_neg (by omega), if_neg h]
    · obtain rfl := Nat.eq_of_beq_eq_true hb
      simp
theorem Rdp_get {U : Uns} {w : World} {B : Blk} {H : Hp} : ∀ {xs : List AV} {vs : List Value}, Rdp U w xs B H vs → xs.length = vs.length ∧ ∀ (i : Nat) (x : AV), xs[i]? = some x → ∃ v, vs[i]? = some v ∧ ∃ c, Rd U w x B H c ∧ v = pack x c
  | [], vs, h => by simp only [Rdp] at h; subst h; simp
  | x :: xs, vs, h => by
    simp only [Rdp] at h
    obtain ⟨c, vs', rfl, h1, h2⟩ := h
    obtain ⟨k1, k2⟩ := Rdp_get h2
    refine ⟨by simp [k1], fun i y hi => ?_⟩
    cases i with
    | zero => simp at hi; subst hi; exact ⟨_, rfl, c, h1, rfl⟩
    | succ i => simpa using k2 i y (by simpa using hi)
theorem Rd_notup {U : Uns} {w : World} {B : Blk} {H : Hp} {x : AV} {c : List Value} (h : Rd U w x B H c) : ∀ xs, x ≠ .tup xs := by
  rintro xs rfl
  simp [Rd] at h
/-- what a function computes, out of its code -/
theorem AFn_intro {P : Program} {f : FuncId} {fn : Func} {c : Code} {args : List AV} {r : AV} {nt : Nat} {rv : List ResultVar} (hf : P.funcs[f]? = some fn) (hb : fn.body = some c) (hnt : fn.ntmps = nt) (hrv : fn.results = rv.toArray) (hn : args.length ≤ nt) (ys : List AV) (hy : resA ys = r)
    (h : ∀ E, (∀ b, ¬ E.ent b) → AW P E nt c ⟨bindsA 0 args, []⟩ (fun e S' => (e = .normal ∨ e = .ret) ∧ ResL P S' rv ys)) : AFn P f args r := by
  have hrv' : fn.results.toList = rv := by rw [hrv]
  subst hnt
  subst hrv'
  clear hrv
  intro U w vs hvs
  subst hy
  obtain ⟨hl, hg⟩ := Rdp_get hvs
  let E : Env := ⟨w, U, fun _ => none, fun _ _ => rfl, []⟩
  have hE : ∀ b, ¬ E.ent b := fun b ⟨g, k, h⟩ => by cases h
  have eU : unst E B0 H0 = fun b o => b < w.heap.size ∧ U b o ∧ ¬ E.ent b := unst0 E
  have r0 : Rel E fn.ntmps B0 (St.t ⟨bindsA 0 args, []⟩) (St.h ⟨bindsA 0 args, []⟩) { tmps := vs.toArray ++ Array.replicate (fn.ntmps - vs.toArray.size) undef, defers := [] } w := by
    have eH : (St.h ⟨bindsA 0 args, []⟩) = H0 := by funext k; rfl
    rw [eH]
    refine ⟨by simp; omega, rfl, fun s x hs => ?_, fun g bx h => by simp [H0] at h, fun g _ => rfl, fun g g' b h => by simp [H0, live] at h, ⟨rfl, rfl, rfl, Nat.le_refl _, fun k _ _ => rfl, Evo.refl _ _⟩, fun _ _ => rfl⟩
    have hs' : look s (bindsA 0 args) = some x := hs
    rw [bindsA_look] at hs'
    simp only [Nat.zero_le, if_true, Nat.sub_zero] at hs'
    obtain ⟨v, h1, c', h2, h3⟩ := hg s x hs'
    have hsl : s < vs.length := (List.getElem?_eq_some_iff.1 h1).1
    refine ⟨v, ?_, ?_⟩
    · rw [Array.getElem?_append_left (by simpa using hsl)]
      simpa using h1
    · rw [eU]
      exact Rdv_sub (fun b o h => h.2.1) (by rw [Rdv_not (Rd_notup h2)]; exact ⟨c', h2, h3⟩)
  refine calls_of_wp hf hb (wp_mono (h E hE B0 _ w r0) ?_)
  rintro e a' w' ⟨B', S', r', he, hres⟩
  obtain ⟨us, k1, k2, k3⟩ := resL_run r' _ _ hres
  have hx : Ext w w' := ⟨r'.left.os, r'.left.tape, r'.left.output, r'.left.size, fun k hk => r'.left.block k hk (hE k)⟩
  have hfin : ∃ v, (results fn a'.tmps).run P w' = .ok v w' ∧ ∃ v', Ending.returned v = .returned v' ∧ Rdv (fun b o => b < w.heap.size ∧ U b o) w' B0 H0 (resA ys) v' ∧ Ext w w' := by
    have hm := mapM_arr _ _ _ _ _ k1
    rw [Array.toArray_toList] at hm
    rw [results_eq, Sem.run_bind, hm]
    obtain ⟨m1, m2⟩ := Rdp_get k3
    by_cases h1 : us.length = 1
    · obtain ⟨u, rfl⟩ := List.length_eq_one_iff.1 h1
      obtain ⟨y, rfl⟩ := List.length_eq_one_iff.1 (m1.trans h1)
      refine ⟨u, by simp, u, rfl, ?_, hx⟩
      obtain ⟨v, h3, c', h4, h5⟩ := m2 0 y rfl
      simp at h3
      subst h3
      show Rdv (fun b o => b < w.heap.size ∧ U b o) w' B0 H0 y u
      exact Rdv_sub (U := unst E B' S'.h) (fun b o h => .inl ⟨h.1, h.2, hE b⟩) (by rw [Rdv_not (Rd_notup h4)]; exact ⟨c', h4, h5⟩)
    · refine ⟨.tuple us.toArray, by simp [h1], _, rfl, ?_, hx⟩
      have hr : resA ys = .tup ys := by
        match ys, m1 with
        | [], _ => rfl
        | [y], m1 => exact absurd m1.symm h1
        | y :: z :: l, _ => rfl
      rw [hr, Rdv_tup]
      have := Rdv_sub (U := unst E B' S'.h) (U' := fun b o => b < w.heap.size ∧ U b o) (w := w') (B := B0) (H := H0) (x := .tup ys) (v := .tuple us.toArray) (fun b o h => .inl ⟨h.1, h.2, hE b⟩) (by rw [Rdv_tup]; exact ⟨us, rfl, k3⟩)
      rw [Rdv_tup] at this
      exact this
  obtain ⟨v, h1, h2⟩ := hfin
  rcases he with rfl | rfl
  · exact ⟨r'.df, v, h1, h2⟩
  · exact ⟨r'.df, v, h1, h2⟩
end Go.Proofs.Ytphojngdgmnpaaa

namespace Go.Proofs.Ytphojngdgmnpaaa
open Go Go.RowKit
set_option linter.unusedVariables false
set_option linter.unusedSimpArgs false
set_option maxRecDepth 100000

theorem agree_op {ops : Array Oper} {o : Oper} {T T' : Nat → Option AV} (ht : ∀ s ∈ o.looksAt ops, T' s = T s) {x : Operand} (hx : x ∈ o.op.operands.toList) : evalO T' x = evalO T x := by
  cases x with
  | tmp t => exact ht t (List.mem_append_left _ (List.mem_filterMap.2 ⟨.tmp t, hx, rfl⟩))
  | _ => rfl
section
variable {P : Program} {E : Env} {nt : Nat} {ops : Array Oper} {T : Nat → Option AV} {H : Hp} {d : Option Nat} {ty : TypeId} {pos : String} {af : Array Edge} {gd : Option (Nat × Bool)}
/-- an operation that leaves a value and no more -/
theorem ok_val {op : Op} {rh : List Nat} {x : AV} (hd : dOk nt d = true)
    (h : ∀ B T' H' a w, Rel E nt B T' H' a w → (∀ y ∈ op.operands.toList, evalO T' y = evalO T y) → (∀ g ∈ rh, H' g = H g) →
      ∃ v, (execOp a.eval ⟨d, op, ty, pos, af, gd⟩).run P w = .ok (.value v) w ∧ Rdv (unst E B H') w B H' x v) : OpOK P E nt ops ⟨d, op, ty, pos, af, gd⟩ T H rh ⟨x, []⟩ := by
  intro T' H' ht hh _ B a w r K Q hK
  obtain ⟨v, h1, h2⟩ := h B T' H' a w r (fun y hy => agree_op ht hy) hh
  unfold Oper.wp
  rw [h1]
  exact hK B _ w (r.put hd h2)
theorem ok_move {x : Operand} {v : AV} (hd : dOk nt d = true) (hx : evalO T x = some v) : OpOK P E nt ops ⟨d, .move x, ty, pos, af, gd⟩ T H [] ⟨v, []⟩ :=
  ok_val hd fun B T' H' a w r ht hh => ⟨a.eval x, by simp [execOp], r.eval ((ht x (by simp [Op.operands])).trans hx)⟩
theorem ok_assign {x : Operand} {v : AV} (hd : dOk nt d = true) (hx : evalO T x = some v) : OpOK P E nt ops ⟨d, .assign x, ty, pos, af, gd⟩ T H [] ⟨v, []⟩ :=
  ok_val hd fun B T' H' a w r ht hh => ⟨a.eval x, by simp [execOp], r.eval ((ht x (by simp [Op.operands])).trans hx)⟩
theorem ok_pick_t {c x y : Operand} {v : AV} (hd : dOk nt d = true) (hc : evalO T c = some (.v (.bool true))) (hx : evalO T x = some v) : OpOK P E nt ops ⟨d, .pick c x y, ty, pos, af, gd⟩ T H [] ⟨v, []⟩ :=
  ok_val hd fun B T' H' a w r ht hh => ⟨a.eval x, by
    have := r.evalv ((ht c (by simp [Op.operands])).trans hc)
    simp [execOp, this, asBool], r.eval ((ht x (by simp [Op.operands])).trans hx)⟩
theorem ok_pick_f {c x y : Operand} {v : AV} (hd : dOk nt d = true) (hc : evalO T c = some (.v (.bool false))) (hy : evalO T y = some v) : OpOK P E nt ops ⟨d, .pick c x y, ty, pos, af, gd⟩ T H [] ⟨v, []⟩ :=
  ok_val hd fun B T' H' a w r ht hh => ⟨a.eval y, by
    have := r.evalv ((ht c (by simp [Op.operands])).trans hc)
    simp [execOp, this, asBool], r.eval ((ht y (by simp [Op.operands])).trans hy)⟩
theorem ok_extract {x : Operand} {i : Nat} {vs : List AV} {v : AV} (hd : dOk nt d = true) (hx : evalO T x = some (.tup vs)) (hv : vs[i]? = some v) : OpOK P E nt ops ⟨d, .extract x i, ty, pos, af, gd⟩ T H [] ⟨v, []⟩ :=
  ok_val hd fun B T' H' a w r ht hh => by
    have h := r.eval ((ht x (by simp [Op.operands])).trans hx)
    rw [Rdv_tup] at h
    obtain ⟨us, h1, h2⟩ := h
    obtain ⟨k1, k2⟩ := Rdp_get h2
    obtain ⟨u, h3, c, h4, h5⟩ := k2 i v hv
    refine ⟨u, ?_, by rw [Rdv_not (Rd_notup h4)]; exact ⟨c, h4, h5⟩⟩
    simp [execOp, h1, Instr.extract, h3]
theorem ok_bin {op : BinOp} {t t' : TypeId} {x y : Operand} {vx vy vz : Value} (hd : dOk nt d = true) (hx : evalO T x = some (.v vx)) (hy : evalO T y = some (.v vy))
    (hr : ∀ w, (do eqGuard op t x y vx vy; binOp op t vx vy : Sem Value).run P w = .ok vz w) (hp : plain vz = true) : OpOK P E nt ops ⟨d, .binOp op t x y t', ty, pos, af, gd⟩ T H [] ⟨.v vz, []⟩ :=
  ok_val hd fun B T' H' a w r ht hh => ⟨vz, by
    have h1 := r.evalv ((ht x (by simp [Op.operands])).trans hx)
    have h2 := r.evalv ((ht y (by simp [Op.operands])).trans hy)
    simp only [execOp, h1, h2]
    rw [Sem.run_bind, hr w]
    rfl, by rw [Rdv_v]; exact ⟨hp, rfl⟩⟩
section arith
variable {t t' : TypeId} {x y : Operand} {k : IntKind} {a b : Int}
theorem ok_add {c : Int} (hd : dOk nt d = true) (hx : evalO T x = some (.v (.int k a))) (hy : evalO T y = some (.v (.int k b))) (hc : k.wrap (a + b) = c) : OpOK P E nt ops ⟨d, .binOp .add t x y t', ty, pos, af, gd⟩ T H [] ⟨.v (.int k c), []⟩ :=
  ok_bin hd hx hy (fun w => by subst hc; simp [eqGuard, binOp, Op.intArith]) rfl
theorem ok_sub {c : Int} (hd : dOk nt d = true) (hx : evalO T x = some (.v (.int k a))) (hy : evalO T y = some (.v (.int k b))) (hc : k.wrap (a - b) = c) : OpOK P E nt ops ⟨d, .binOp .sub t x y t', ty, pos, af, gd⟩ T H [] ⟨.v (.int k c), []⟩ :=
  ok_bin hd hx hy (fun w => by subst hc; simp [eqGuard, binOp, Op.intArith]) rfl
theorem ok_mul {c : Int} (hd : dOk nt d = true) (hx : evalO T x = some (.v (.int k a))) (hy : evalO T y = some (.v (.int k b))) (hc : k.wrap (a * b) = c) : OpOK P E nt ops ⟨d, .binOp .mul t x y t', ty, pos, af, gd⟩ T H [] ⟨.v (.int k c), []⟩ :=
  ok_bin hd hx hy (fun w => by subst hc; simp [eqGuard, binOp, Op.intArith]) rfl
theorem i64_add {a b : Int} (h : -9223372036854775808 ≤ a + b ∧ a + b ≤ 9223372036854775807) : IntKind.i64.wrap (a + b) = a + b := IntWalk.i64_in _ h
theorem i64_sub {a b : Int} (h : -9223372036854775808 ≤ a - b ∧ a - b ≤ 9223372036854775807) : IntKind.i64.wrap (a - b) = a - b := IntWalk.i64_in _ h
theorem i64_mul {a b : Int} (h : -9223372036854775808 ≤ a * b ∧ a * b ≤ 9223372036854775807) : IntKind.i64.wrap (a * b) = a * b := IntWalk.i64_in _ h
theorem ok_quo {c : Int} (hd : dOk nt d = true) (hx : evalO T x = some (.v (.int k a))) (hy : evalO T y = some (.v (.int k b))) (h0 : b ≠ 0) (hc : k.wrap (a.tdiv b) = c) : OpOK P E nt ops ⟨d, .binOp .quo t x y t', ty, pos, af, gd⟩ T H [] ⟨.v (.int k c), []⟩ :=
  ok_bin hd hx hy (fun w => by subst hc; simp [eqGuard, binOp, Op.intDiv, h0]) rfl
theorem ok_rem {c : Int} (hd : dOk nt d = true) (hx : evalO T x = some (.v (.int k a))) (hy : evalO T y = some (.v (.int k b))) (h0 : b ≠ 0) (hc : a.tmod b = c) : OpOK P E nt ops ⟨d, .binOp .rem t x y t', ty, pos, af, gd⟩ T H [] ⟨.v (.int k c), []⟩ :=
  ok_bin hd hx hy (fun w => by subst hc; simp [eqGuard, binOp, Op.intDiv, h0]) rfl
theorem i64_quo {a b : Int} (h : 0 ≤ a ∧ a ≤ 9223372036854775807 ∧ 1 ≤ b) : IntKind.i64.wrap (a.tdiv b) = a / b := by
  rw [Int.tdiv_eq_ediv_of_nonneg h.1]
  have h1 : 0 ≤ a / b := Int.ediv_nonneg h.1 (by omega)
  have h2 : a / b ≤ a := Int.ediv_le_self _ h.1
  exact IntWalk.i64_in _ ⟨by omega, by omega⟩
theorem i64_rem {a b : Int} (h : 0 ≤ a) : a.tmod b = a % b := Int.tmod_eq_emod_of_nonneg h
theorem ok_lss (hd : dOk nt d = true) (hx : evalO T x = some (.v (.int k a))) (hy : evalO T y = some (.v (.int k b))) : OpOK P E nt ops ⟨d, .binOp .lss t x y t', ty, pos, af, gd⟩ T H [] ⟨.v (.bool (decide (a < b))), []⟩ :=
  ok_bin hd hx hy (fun w => by simp [eqGuard, binOp, Op.intCmp]) rfl
theorem ok_leq (hd : dOk nt d = true) (hx : evalO T x = some (.v (.int k a))) (hy : evalO T y = some (.v (.int k b))) : OpOK P E nt ops ⟨d, .binOp .leq t x y t', ty, pos, af, gd⟩ T H [] ⟨.v (.bool (decide (a ≤ b))), []⟩ :=
  ok_bin hd hx hy (fun w => by simp [eqGuard, binOp, Op.intCmp]) rfl
theorem ok_gtr (hd : dOk nt d = true) (hx : evalO T x = some (.v (.int k a))) (hy : evalO T y = some (.v (.int k b))) : OpOK P E nt ops ⟨d, .binOp .gtr t x y t', ty, pos, af, gd⟩ T H [] ⟨.v (.bool (decide (b < a))), []⟩ :=
  ok_bin hd hx hy (fun w => by simp [eqGuard, binOp, Op.intCmp]) rfl
theorem ok_geq (hd : dOk nt d = true) (hx : evalO T x = some (.v (.int k a))) (hy : evalO T y = some (.v (.int k b))) : OpOK P E nt ops ⟨d, .binOp .geq t x y t', ty, pos, af, gd⟩ T H [] ⟨.v (.bool (decide (b ≤ a))), []⟩ :=
  ok_bin hd hx hy (fun w => by simp [eqGuard, binOp, Op.intCmp]) rfl
theorem ok_eql (hd : dOk nt d = true) (hx : evalO T x = some (.v (.int k a))) (hy : evalO T y = some (.v (.int k b))) : OpOK P E nt ops ⟨d, .binOp .eql t x y t', ty, pos, af, gd⟩ T H [] ⟨.v (.bool (decide (a = b))), []⟩ :=
  ok_bin hd hx hy (fun w => by simp [eqGuard, binOp, Op.intCmp]; rfl) rfl
theorem ok_neq (hd : dOk nt d = true) (hx : evalO T x = some (.v (.int k a))) (hy : evalO T y = some (.v (.int k b))) : OpOK P E nt ops ⟨d, .binOp .neq t x y t', ty, pos, af, gd⟩ T H [] ⟨.v (.bool (decide (a ≠ b))), []⟩ :=
  ok_bin hd hx hy (fun w => by simp [eqGuard, binOp, Op.intCmp, bne]; rfl) rfl
end arith
theorem run_eq_bool {t : TypeId} (ht : P.underlying t = some .bool) (n : Nat) (a b : Bool) (w : World) : (Op.equalIn (n + 1) t (.bool a) (.bool b)).run P w = .ok (a == b) w := by simp [Op.equalIn, run_underlying ht]
theorem ok_eql_b {t t' : TypeId} {x y : Operand} {a b : Bool} (ht : P.underlying t = some .bool) (hd : dOk nt d = true) (hx : evalO T x = some (.v (.bool a))) (hy : evalO T y = some (.v (.bool b))) : OpOK P E nt ops ⟨d, .binOp .eql t x y t', ty, pos, af, gd⟩ T H [] ⟨.v (.bool (decide (a = b))), []⟩ :=
  ok_bin hd hx hy (fun w => by
    have : (Op.equal t (.bool a) (.bool b)).run P w = .ok (a == b) w := run_eq_bool ht 9999 a b w
    simp [eqGuard, binOp, this]; rfl) rfl
theorem ok_neq_b {t t' : TypeId} {x y : Operand} {a b : Bool} (ht : P.underlying t = some .bool) (hd : dOk nt d = true) (hx : evalO T x = some (.v (.bool a))) (hy : evalO T y = some (.v (.bool b))) : OpOK P E nt ops ⟨d, .binOp .neq t x y t', ty, pos, af, gd⟩ T H [] ⟨.v (.bool (decide (a ≠ b))), []⟩ :=
  ok_bin hd hx hy (fun w => by
    have : (Op.equal t (.bool a) (.bool b)).run P w = .ok (a == b) w := run_eq_bool ht 9999 a b w
    simp [eqGuard, binOp, this]; cases a <;> cases b <;> rfl) rfl
theorem ok_not {t : TypeId} {x : Operand} {p : Bool} (hd : dOk nt d = true) (hx : evalO T x = some (.v (.bool p))) : OpOK P E nt ops ⟨d, .unOp .not t x, ty, pos, af, gd⟩ T H [] ⟨.v (.bool (!p)), []⟩ :=
  ok_val hd fun B T' H' a w r ht hh => ⟨.bool (!p), by
    have h1 := r.evalv ((ht x (by simp [Op.operands])).trans hx)
    simp [execOp, h1, Op.unary], by rw [Rdv_v]; exact ⟨rfl, rfl⟩⟩
theorem ok_conv_i {s t : TypeId} {x : Operand} {k k' : IntKind} {n : Int} {c : Int} (hs : ∃ u, P.underlying s = some u) (htt : P.underlying t = some (.int k')) (hd : dOk nt d = true) (hx : evalO T x = some (.v (.int k n))) (hc : k'.wrap n = c) : OpOK P E nt ops ⟨d, .convert s t x, ty, pos, af, gd⟩ T H [] ⟨.v (.int k' c), []⟩ :=
  ok_val hd fun B T' H' a w r ht hh => ⟨.int k' c, by
    have h1 := r.evalv ((ht x (by simp [Op.operands])).trans hx)
    obtain ⟨u, hu⟩ := hs
    subst hc
    simp [execOp, h1, convert, run_underlying hu, run_underlying htt, Conv.intToInt], by rw [Rdv_v]; exact ⟨rfl, rfl⟩⟩
theorem Rdv_one {U : Uns} {w : World} {B : Blk} {H : Hp} {x : AV} {v : Value} (hx : ∀ xs, x ≠ .tup xs) (h : Rdv U w B H x v) (ha : isAggA x = false) : Rd U w x B H [v] := by
  rw [Rdv_not hx] at h
  obtain ⟨c, h1, rfl⟩ := h
  have := (Rd_pack h1).2 ha
  rw [← this]; exact h1
theorem ok_len {x : Operand} {t e : TypeId} {tok : Option Nat} {n : Nat} {xs : List AV} (htt : P.underlying t = some (.slice e)) (hd : dOk nt d = true) (hx : evalO T x = some (.sl tok n xs)) :
    OpOK P E nt ops ⟨d, .call { callee := .builtin .len, args := #[x], argTypes := #[t] }, ty, pos, af, gd⟩ T H [] ⟨.v (.int .i64 xs.length), []⟩ :=
  ok_val hd fun B T' H' a w r ht hh => ⟨.int .i64 xs.length, by
    have h := Rdv_one (by simp) (r.eval ((ht x (by simp [Op.operands, Call.operands])).trans hx)) rfl
    simp only [Rd] at h
    obtain ⟨A, cap, h1, _⟩ := h
    injection h1 with h1
    simp [execOp, resolve, invoke, builtin, h1, Builtin.len_, run_underlying htt, goInt], by rw [Rdv_v]; exact ⟨rfl, rfl⟩⟩
theorem ok_len_nil {x : Operand} {t e : TypeId} (htt : P.underlying t = some (.slice e)) (hd : dOk nt d = true) (hx : evalO T x = some (.v (.slice none 0 0))) :
    OpOK P E nt ops ⟨d, .call { callee := .builtin .len, args := #[x], argTypes := #[t] }, ty, pos, af, gd⟩ T H [] ⟨.v (.int .i64 0), []⟩ :=
  ok_val hd fun B T' H' a w r ht hh => ⟨.int .i64 0, by
    have h := r.evalv ((ht x (by simp [Op.operands, Call.operands])).trans hx)
    simp [execOp, resolve, invoke, builtin, h, Builtin.len_, run_underlying htt, goInt], by rw [Rdv_v]; exact ⟨rfl, rfl⟩⟩
theorem ok_len_seg {x : Operand} {t e : TypeId} {g off n len cap : Nat} {p : List Nat} (htt : P.underlying t = some (.slice e)) (hd : dOk nt d = true) (hx : evalO T x = some (.seg g off n p len cap)) :
    OpOK P E nt ops ⟨d, .call { callee := .builtin .len, args := #[x], argTypes := #[t] }, ty, pos, af, gd⟩ T H [] ⟨.v (.int .i64 len), []⟩ :=
  ok_val hd fun B T' H' a w r ht hh => ⟨.int .i64 len, by
    have h := Rdv_one (by simp) (r.eval ((ht x (by simp [Op.operands, Call.operands])).trans hx)) rfl
    simp only [Rd] at h
    obtain ⟨_, b, _, _, _, h1⟩ := h
    injection h1 with h1
    simp [execOp, resolve, invoke, builtin, h1, Builtin.len_, run_underlying htt, goInt], by rw [Rdv_v]; exact ⟨rfl, rfl⟩⟩
theorem ok_len_str {x : Operand} {t : TypeId} {s : ByteArray} (htt : P.underlying t = some .string) (hd : dOk nt d = true) (hx : evalO T x = some (.v (.string s))) :
    OpOK P E nt ops ⟨d, .call { callee := .builtin .len, args := #[x], argTypes := #[t] }, ty, pos, af, gd⟩ T H [] ⟨.v (.int .i64 s.size), []⟩ :=
  ok_val hd fun B T' H' a w r ht hh => ⟨.int .i64 s.size, by
    have h := r.evalv ((ht x (by simp [Op.operands, Call.operands])).trans hx)
    simp [execOp, resolve, invoke, builtin, h, Builtin.len_, run_underlying htt, goInt], by rw [Rdv_v]; exact ⟨rfl, rfl⟩⟩
theorem ok_min {x y : Operand} {t t' : TypeId} {k : IntKind} {p q : Int} (hd : dOk nt d = true) (hx : evalO T x = some (.v (.int k p))) (hy : evalO T y = some (.v (.int k q))) :
    OpOK P E nt ops ⟨d, .call { callee := .builtin .min, args := #[x, y], argTypes := #[t, t'] }, ty, pos, af, gd⟩ T H [] ⟨.v (.int k (if q < p then q else p)), []⟩ :=
  ok_val hd fun B T' H' a w r ht hh => ⟨.int k (if q < p then q else p), by
    have h1 := r.evalv ((ht x (by simp [Op.operands, Call.operands])).trans hx)
    have h2 := r.evalv ((ht y (by simp [Op.operands, Call.operands])).trans hy)
    simp [execOp, resolve, invoke, builtin, h1, h2, Builtin.min_, Builtin.min2], by rw [Rdv_v]; exact ⟨rfl, rfl⟩⟩
end
end Go.Proofs.Ytphojngdgmnpaaa

namespace Go.Proofs.Ytphojngdgmnpaaa
open Go Go.RowKit
set_option linter.unusedVariables false
set_option linter.unusedSimpArgs false
set_option maxRecDepth 100000

section
variable {E : Env} {nt : Nat} {B B' : Blk} {T : Nat → Option AV} {H H' : Hp} {a : Act} {w w' : World}
theorem heap_lt {b : Nat} {o : Obj} (h : w.heap[b]? = some o) : b < w.heap.size := (Array.getElem?_eq_some_iff.1 h).1
/-- a live box's block lies in the world -/
theorem Rel.blk_lt (r : Rel E nt B T H a w) {g b : Nat} {bx : Bx} (h : H g = some bx) (hb : B g = some b) : b < w.heap.size := by
  have h1 := r.box g bx h
  cases bx with
  | var x => obtain ⟨b', cs, t, k1, k2, _⟩ := h1; rw [hb] at k1; injection k1 with k1; subst k1; exact heap_lt k2
  | froz x => obtain ⟨b', cs, k1, k2, _⟩ := h1; rw [hb] at k1; injection k1 with k1; subst k1; exact row_lt k2
  | tail e n k =>
    rcases h1.2.2 with ⟨k1, _⟩ | ⟨b', cur, cap, k1, k2, _⟩
    · rw [hb] at k1; cases k1
    · rw [hb] at k1; injection k1 with k1; subst k1; exact heap_lt k2
  | own e n xs =>
    rcases h1.2.2 with ⟨k1, _⟩ | ⟨b', cur, cap, c, k1, k2, _⟩
    · rw [hb] at k1; cases k1
    · rw [hb] at k1; injection k1 with k1; subst k1; exact heap_lt k2
theorem Rel.unst_lt (r : Rel E nt B T H a w) {b o : Nat} (h : unst E B H b o) : b < w.heap.size := by
  rcases h with ⟨h, _⟩ | ⟨g, hb, h⟩
  · exact Nat.lt_of_lt_of_le h r.left.size
  · cases hg : H g with
    | none => rw [hg] at h; exact h.elim
    | some bx => exact r.blk_lt hg hb
theorem Rel.move (r : Rel E nt B T H a w) (evo : Evo (unst E B H) w w') (hU : ∀ b o, b < w.heap.size → unst E B' H' b o → unst E B H b o) (pic : Pic w w' B B' H H') (left : Left E w')
    (box : ∀ g bx, H' g = some bx → RelBox E B' H' w' g bx ∨ (H g = some bx ∧ B' g = B g ∧ ∀ b, live (some bx) = true → B g = some b → w'.heap[b]? = w.heap[b]?))
    (non : ∀ g, H' g = none → H g = none ∧ B' g = none) (inj : ∀ g g' b, live (H' g) = true → live (H' g') = true → B' g = some b → B' g' = some b → g = g') : Rel E nt B' T H' a w' := ⟨r.nt, r.df, fun s x h => by
    obtain ⟨v, h1, h2⟩ := r.tmp s x h
    exact ⟨v, h1, Rdv_go evo hU pic h2⟩, fun g bx h => by
    rcases box g bx h with h1 | ⟨h1, h2, h3⟩
    · exact h1
    · have hb := r.box g bx h1
      cases bx with
      | var x =>
        obtain ⟨b, cs, t, k1, k2, k3, k4⟩ := hb
        exact ⟨b, cs, t, h2.trans k1, (h3 b rfl k1).trans k2, Rd_go evo hU x pic k3, k4⟩
      | froz x =>
        obtain ⟨b, cs, k1, k2, k3, k4⟩ := hb
        exact ⟨b, cs, h2.trans k1, evo.row k2 k3, quiet_sub hU k2 k3, Rd_go evo hU x pic k4⟩
      | tail e n k =>
        obtain ⟨h0, hT, hb⟩ := hb
        refine ⟨h0, h2 ▸ hT, ?_⟩
        rcases hb with ⟨k1, k2⟩ | ⟨b, cur, cap, k1, k2, k3⟩
        · exact .inl ⟨h2.trans k1, k2⟩
        · exact .inr ⟨b, cur, cap, h2.trans k1, (h3 b rfl k1).trans k2, k3⟩
      | own e n xs =>
        obtain ⟨h0, hT, hb⟩ := hb
        refine ⟨h0, h2 ▸ hT, ?_⟩
        rcases hb with ⟨k1, k2⟩ | ⟨b, cur, cap, c, k1, k2, k3, k4, k5, k6, k7, k8⟩
        · exact .inl ⟨h2.trans k1, k2⟩
        · exact .inr ⟨b, cur, cap, c, h2.trans k1, (h3 b rfl k1).trans k2, k3, k4, k5, k6, Rdu_go evo hU n xs (Pic.refl0 _ _) k7, k8⟩, fun g h => (non g h).2, inj, left, fun g h => r.keep g (non g h).1⟩
/-- a block's cells turned, all else as it was -/
structure Turned (w w' : World) (b : Nat) : Prop where
  os : w'.os = w.os
  tape : w'.tape = w.tape
  output : w'.output = w.output
  size : w'.heap.size = w.heap.size
  other : ∀ k, k ≠ b → w'.heap[k]? = w.heap[k]?
theorem Turned.evo {U : Uns} {b : Nat} (t : Turned w w' b) {cs cs' : Array Value} {ty : TypeId} {fr : Nat × Nat} (h : w.heap[b]? = some (.cells cs ty fr)) (h' : w'.heap[b]? = some (.cells cs' ty fr)) (hs : cs'.size = cs.size) (hc : ∀ o, ¬ U b o → cs'[o]? = cs[o]?) : Evo U w w' := by
  refine ⟨Nat.le_of_eq t.size.symm, fun k c t' f hk => ?_⟩
  by_cases hkb : k = b
  · subst hkb
    rw [h] at hk
    injection hk with hk
    injection hk with h1 h2 h3
    subst h1 h2 h3
    exact ⟨cs', h', hs, hc⟩
  · exact ⟨c, (t.other k hkb).trans hk, rfl, fun _ _ => rfl⟩
theorem Turned.left {b o0 : Nat} (t : Turned w w' b) (l : Left E w) {cs cs' : Array Value} {ty : TypeId} {fr : Nat × Nat} (h : w.heap[b]? = some (.cells cs ty fr)) (h' : w'.heap[b]? = some (.cells cs' ty fr)) (hs : cs'.size = cs.size) (hc : ∀ o, o < o0 → cs'[o]? = cs[o]?) (hb : Mine E b o0) : Left E w' :=
  ⟨t.os.trans l.os, t.tape.trans l.tape, t.output.trans l.output, by rw [t.size]; exact l.size, fun k hk he => by
    rcases hb with hb | ⟨_, hb, _⟩
    · exact (t.other k (by omega)).trans (l.block k hk he)
    · exact (t.other k (fun e => he (e ▸ hb))).trans (l.block k hk he), ⟨by rw [t.size]; exact l.size, fun k c ty' fr' hk => by
    obtain ⟨c1, h1, h2, h3⟩ := l.evo.cell k c ty' fr' hk
    by_cases hkb : k = b
    · subst hkb
      rw [h] at h1
      injection h1 with h1
      injection h1 with e1 e2 e3
      subst e1 e2 e3
      refine ⟨cs', h', hs.trans h2, fun o ho => ?_⟩
      rcases hb with hb | ⟨_, _, hb⟩
      · have := heap_lt hk; omega
      · rcases Nat.lt_or_ge o o0 with h4 | h4
        · exact (hc o h4).trans (h3 o ho)
        · exact absurd (hb o h4) ho
    · exact ⟨c1, (t.other k hkb).trans h1, h2, h3⟩⟩⟩
theorem live_upd {g j : Nat} {bx : Bx} (hg : live (H g) = live (some bx)) : live (upd H g bx j) = live (H j) := by
  unfold upd; split
  · rename_i h; subst h; exact hg.symm
  · rfl
/-- a store into a variable -/
theorem Rel.store (r : Rel E nt B T H a w) {g b : Nat} {x x' : AV} {cs cs' : List Value} {ty : TypeId} (hg : H g = some (.var x)) (hb : B g = some b) (hw : w.heap[b]? = some (.cells cs.toArray ty (0, 0)))
    (ht : Turned w w' b) (hw' : w'.heap[b]? = some (.cells cs'.toArray ty (0, 0))) (hl : cs'.length = cs.length) (hx : Rd (unst E B H) w x' B H cs') : Rel E nt B T (upd H g (.var x')) a w' := by
  have hun : ∀ b' o, unst E B (upd H g (.var x')) b' o ↔ unst E B H b' o := by
    intro b' o
    unfold unst
    refine or_congr Iff.rfl (exists_congr fun j => and_congr_right fun _ => ?_)
    by_cases h : j = g
    · subst h; rw [upd_same, hg]
    · rw [upd_ne _ _ h]
  have hbu : ∀ o, unst E B H b o := fun o => .inr ⟨g, hb, by rw [hg]; trivial⟩
  have evo : Evo (unst E B H) w w' := ht.evo hw hw' (by simp [hl]) (fun o h => absurd (hbu o) h)
  have hlive : live (H g) = true := by rw [hg]; rfl
  have pic : Pic w w' B B H (upd H g (.var x')) := by
    refine ⟨fun _ _ _ h => h, fun j h => ?_, fun t n len A cap h => ?_, ownPic evo fun g' e' n' ys h => ?_⟩
    · unfold upd; split
      · rfl
      · exact h
    · obtain ⟨e, k, h1, h2, h3⟩ := h
      have hne : t ≠ g := fun e' => by rw [e', hg] at h1; cases h1
      refine ⟨e, k, by rw [upd_ne _ _ hne]; exact h1, h2, fun hk => ⟨(h3 hk).1, fun b' hb' => ?_⟩⟩
      obtain ⟨k1, cur, k2, k3⟩ := (h3 hk).2 b' hb'
      have hbb : b' ≠ b := fun e' => hne (r.inj t g b (by rw [h1]; rfl) hlive (e' ▸ hb') hb)
      exact ⟨k1, cur, (ht.other b' hbb).trans k2, k3⟩
    · have hne : g' ≠ g := fun e' => by rw [e', hg] at h; cases h
      exact ⟨(upd_ne _ _ hne).trans h, rfl⟩
  have hent : Mine E b 0 ∧ Tie E g 0 (some b) := by
    obtain ⟨b', _, _, k1, _, _, k4⟩ := r.box g _ hg
    rw [hb] at k1; injection k1 with k1; subst k1; exact k4
  refine r.move evo (fun b' o _ h => (hun b' o).1 h) pic (ht.left r.left hw hw' (by simp [hl]) (fun o h => absurd h (Nat.not_lt_zero o)) hent.1) (fun j bx h => ?_) (fun j h => ?_) (fun j j' b' h1 h2 h3 h4 => ?_)
  · by_cases hj : j = g
    · subst hj
      rw [upd_same] at h
      injection h with h
      subst h
      exact .inl ⟨b, cs', ty, hb, hw', Rd_go evo (fun b' o _ h => (hun b' o).1 h) x' pic hx, hent⟩
    · rw [upd_ne _ _ hj] at h
      refine .inr ⟨h, rfl, fun b' hlv hb' => ht.other b' fun e' => hj (r.inj j g b (by rw [h]; exact hlv) hlive (e' ▸ hb') hb)⟩
  · by_cases hj : j = g
    · subst hj; rw [upd_same] at h; cases h
    · rw [upd_ne _ _ hj] at h; exact ⟨h, r.non j h⟩
  · rw [live_upd (by rw [hg]; rfl)] at h1 h2
    exact r.inj j j' b' h1 h2 h3 h4
theorem unst_new {g : Nat} {bx : Bx} {n : Nat} (hn : ∀ j bj b, H j = some bj → B j = some b → b < n) : ∀ b o, b < n → unst E (upd B g n) (upd H g bx) b o → unst E B H b o := by
  intro b o hb h
  rcases h with h | ⟨j, h1, h2⟩
  · exact .inl h
  · by_cases hj : j = g
    · subst hj
      rw [upd_same] at h1
      injection h1 with h1
      omega
    · rw [upd_ne _ _ hj] at h1 h2
      exact .inr ⟨j, h1, h2⟩
/-- a new block, and a box of it -/
theorem Rel.new (r : Rel E nt B T H a w) {g : Nat} {bx : Bx} {o : Obj} (hg : H g = none) (hx : RelBox E (upd B g w.heap.size) (upd H g bx) (w.alloc o) g bx) : Rel E nt (upd B g w.heap.size) T (upd H g bx) a (w.alloc o) := by
  have hlt : ∀ j bj b, H j = some bj → B j = some b → b < w.heap.size := fun j bj b h1 h2 => r.blk_lt h1 h2
  have pic : Pic w (w.alloc o) B (upd B g w.heap.size) H (upd H g bx) := by
    refine ⟨fun j b h1 h2 => ?_, fun j h => ?_, fun t n len A cap h => ?_, ownPic (Evo.ofExt (U := fun _ _ => False) ((Ext.refl w).alloc o)) fun g' e' n' ys h => ?_⟩
    · have hj : j ≠ g := fun e => by rw [e, hg] at h1; cases h1
      rw [upd_ne _ _ hj]; exact h2
    · have hj : j ≠ g := fun e => by rw [e, hg] at h; cases h
      rw [upd_ne _ _ hj]; exact h
    · obtain ⟨e, k, h1, h2, h3⟩ := h
      have hj : t ≠ g := fun e => by rw [e, hg] at h1; cases h1
      refine ⟨e, k, by rw [upd_ne _ _ hj]; exact h1, h2, ?_⟩
      rw [upd_ne _ _ hj]
      refine fun hk => ⟨(h3 hk).1, fun b hb => ?_⟩
      obtain ⟨k1, cur, k2, k3⟩ := (h3 hk).2 b hb
      exact ⟨k1, cur, (heap_old w o b (heap_lt k2)).trans k2, k3⟩
    · have hne : g' ≠ g := fun e' => by rw [e', hg] at h; cases h
      exact ⟨(upd_ne _ _ hne).trans h, upd_ne _ _ hne⟩
  refine r.move (Evo.ofExt ((Ext.refl w).alloc o)) (unst_new hlt) pic (r.left.ext ((Ext.refl w).alloc o)) (fun j bj h => ?_) (fun j h => ?_) (fun j j' b h1 h2 h3 h4 => ?_)
  · by_cases hj : j = g
    · subst hj; rw [upd_same] at h; injection h with h; subst h; exact .inl hx
    · rw [upd_ne _ _ hj] at h
      exact .inr ⟨h, upd_ne _ _ hj, fun b _ hb => heap_old w o b (hlt j bj b h hb)⟩
  · by_cases hj : j = g
    · subst hj; rw [upd_same] at h; cases h
    · rw [upd_ne _ _ hj] at h ⊢; exact ⟨h, r.non j h⟩
  · have big : ∀ j, j ≠ g → live (upd H g bx j) = true → upd B g w.heap.size j = some b → b < w.heap.size := by
      intro j hj hl hb
      rw [upd_ne _ _ hj] at hl hb
      cases hh : H j with
      | none => rw [hh] at hl; cases hl
      | some bj => exact hlt j bj b hh hb
    by_cases hj : j = g
    · by_cases hj' : j' = g
      · rw [hj, hj']
      · have := big j' hj' h2 h4
        subst hj
        rw [upd_same] at h3
        injection h3 with h3
        omega
    · by_cases hj' : j' = g
      · have := big j hj h1 h3
        subst hj'
        rw [upd_same] at h4
        injection h4 with h4
        omega
      · rw [upd_ne _ _ hj] at h1 h3
        rw [upd_ne _ _ hj'] at h2 h4
        exact r.inj j j' b h1 h2 h3 h4
/-- a row goes on in a new block -/
theorem Rel.regrow (r : Rel E nt B T H a w) {t n k k' : Nat} {e : TypeId} {o : Obj} (hg : H t = some (.tail e n k)) (hk : k < k') (hx : RelBox E (upd B t w.heap.size) (upd H t (.tail e n k')) (w.drew.alloc o) t (.tail e n k')) : Rel E nt (upd B t w.heap.size) T (upd H t (.tail e n k')) a (w.drew.alloc o) := by
  have hlt : ∀ j bj b, H j = some bj → B j = some b → b < w.heap.size := fun j bj b h1 h2 => r.blk_lt h1 h2
  have hext : Ext w (w.drew.alloc o) := (Ext.refl w).drew.alloc o
  have pic : Pic w (w.drew.alloc o) B (upd B t w.heap.size) H (upd H t (.tail e n k')) := by
    refine ⟨fun j b h1 h2 => ?_, fun j h => ?_, fun t' n' len A cap h => ?_, ownPic (Evo.ofExt (U := fun _ _ => False) hext) fun g' e' n' ys h => ?_⟩
    · have hj : j ≠ t := fun e => by rw [e, hg] at h1; cases h1
      rw [upd_ne _ _ hj]; exact h2
    · have hj : j ≠ t := fun e => by rw [e, hg] at h; cases h
      rw [upd_ne _ _ hj]; exact h
    · obtain ⟨e', q, h1, h2, h3⟩ := h
      by_cases hj : t' = t
      · subst hj
        rw [hg] at h1
        injection h1 with h1
        injection h1 with e1 e2 e3
        subst e1 e2 e3
        exact ⟨e, k', upd_same _ _ _, by omega, fun h => by omega⟩
      · refine ⟨e', q, by rw [upd_ne _ _ hj]; exact h1, h2, ?_⟩
        rw [upd_ne _ _ hj]
        refine fun hk => ⟨(h3 hk).1, fun b hb => ?_⟩
        obtain ⟨k1, cur, k2, k3⟩ := (h3 hk).2 b hb
        exact ⟨k1, cur, hext.heap k2, k3⟩
    · have hne : g' ≠ t := fun e' => by rw [e', hg] at h; cases h
      exact ⟨(upd_ne _ _ hne).trans h, upd_ne _ _ hne⟩
  refine r.move (Evo.ofExt hext) (fun b o hb h => unst_new hlt b o hb h) pic (r.left.ext hext) (fun j bj h => ?_) (fun j h => ?_) (fun j j' b h1 h2 h3 h4 => ?_)
  · by_cases hj : j = t
    · subst hj; rw [upd_same] at h; injection h with h; subst h; exact .inl hx
    · rw [upd_ne _ _ hj] at h
      refine .inr ⟨h, upd_ne _ _ hj, fun b _ hb => ?_⟩
      have hbl := hlt j bj b h hb
      exact hext.block b hbl
  · by_cases hj : j = t
    · subst hj; rw [upd_same] at h; cases h
    · rw [upd_ne _ _ hj] at h ⊢; exact ⟨h, r.non j h⟩
  · have big : ∀ j, j ≠ t → live (upd H t (.tail e n k') j) = true → upd B t w.heap.size j = some b → b < w.heap.size := by
      intro j hj hl hb
      rw [upd_ne _ _ hj] at hl hb
      cases hh : H j with
      | none => rw [hh] at hl; cases hl
      | some bj => exact hlt j bj b hh hb
    by_cases hj : j = t
    · by_cases hj' : j' = t
      · rw [hj, hj']
      · have := big j' hj' h2 h4
        subst hj
        rw [upd_same] at h3
        injection h3 with h3
        omega
    · by_cases hj' : j' = t
      · have := big j hj h1 h3
        subst hj'
        rw [upd_same] at h4
        injection h4 with h4
        omega
      · rw [upd_ne _ _ hj] at h1 h3
        rw [upd_ne _ _ hj'] at h2 h4
        exact r.inj j j' b h1 h2 h3 h4
/-- a row goes on in its block -/
theorem Rel.room (r : Rel E nt B T H a w) {t n k k' b cap : Nat} {e : TypeId} {cur cur' : Array Value} (hg : H t = some (.tail e n k)) (hk : k < k') (hb : B t = some b) (hw : w.heap[b]? = some (.cells cur e (0, 0))) (hs : cur.size = cap * n) (hc : k' ≤ cap) (hm : cap ≤ maxLen)
    (ht : Turned w w' b) (hw' : w'.heap[b]? = some (.cells cur' e (0, 0))) (hl : cur'.size = cur.size) (hold : ∀ o, o < k * n → cur'[o]? = cur[o]?) : Rel E nt B T (upd H t (.tail e n k')) a w' := by
  have hlive : live (H t) = true := by rw [hg]; rfl
  have hbox := r.box t _ hg
  have hn : 0 < n := hbox.1
  have hent : Mine E b (k * n) := by
    rcases hbox.2.2 with ⟨k1, _⟩ | ⟨b', _, _, k1, _, _, _, _, k4⟩
    · rw [hb] at k1; cases k1
    · rw [hb] at k1; injection k1 with k1; subst k1; exact k4
  have hsub : ∀ b' o, unst E B (upd H t (.tail e n k')) b' o → unst E B H b' o := by
    rintro b' o (h | ⟨j, h1, h2⟩)
    · exact .inl h
    · refine .inr ⟨j, h1, ?_⟩
      by_cases hj : j = t
      · subst hj
        rw [upd_same] at h2
        rw [hg]
        have : k * n ≤ k' * n := Nat.mul_le_mul_right n (by omega)
        show k * n ≤ o
        have h2' : k' * n ≤ o := h2
        omega
      · rwa [upd_ne _ _ hj] at h2
  have evo : Evo (unst E B H) w w' := ht.evo hw hw' hl (fun o h => by
    refine hold o ?_
    rcases Nat.lt_or_ge o (k * n) with h' | h'
    · exact h'
    · exact absurd (.inr ⟨t, hb, by rw [hg]; exact h'⟩) h)
  have pic : Pic w w' B B H (upd H t (.tail e n k')) := by
    refine ⟨fun _ _ _ h => h, fun j h => ?_, fun t' n' len A cap' h => ?_, ownPic evo fun g' e' n' ys h => ?_⟩
    · have hj : j ≠ t := fun e => by rw [e, hg] at h; cases h
      rw [upd_ne _ _ hj]; exact h
    · obtain ⟨e', q, h1, h2, h3⟩ := h
      by_cases hj : t' = t
      · subst hj
        rw [hg] at h1
        injection h1 with h1
        injection h1 with e1 e2 e3
        subst e1 e2 e3
        exact ⟨e, k', upd_same _ _ _, by omega, fun h => by omega⟩
      · refine ⟨e', q, by rw [upd_ne _ _ hj]; exact h1, h2, fun hk => ⟨(h3 hk).1, fun b' hb' => ?_⟩⟩
        obtain ⟨k1, cur, k2, k3⟩ := (h3 hk).2 b' hb'
        have hbb : b' ≠ b := fun e' => hj (r.inj t' t b (by rw [h1]; rfl) hlive (e' ▸ hb') hb)
        exact ⟨k1, cur, (ht.other b' hbb).trans k2, k3⟩
    · have hne : g' ≠ t := fun e' => by rw [e', hg] at h; cases h
      exact ⟨(upd_ne _ _ hne).trans h, rfl⟩
  refine r.move evo (fun b' o _ h => hsub b' o h) pic (ht.left r.left hw hw' hl hold hent) (fun j bj h => ?_) (fun j h => ?_) (fun j j' b' h1 h2 h3 h4 => ?_)
  · by_cases hj : j = t
    · subst hj
      rw [upd_same] at h
      injection h with h
      subst h
      exact .inl ⟨hn, hbox.2.1.grow hk, .inr ⟨b, cur', cap, hb, hw', by rw [hl]; exact hs, hc, hm, hent.mono (Nat.mul_le_mul_right n (by omega))⟩⟩
    · rw [upd_ne _ _ hj] at h
      exact .inr ⟨h, rfl, fun b' hlv hb' => ht.other b' fun e' => hj (r.inj j t b (by rw [h]; exact hlv) hlive (e' ▸ hb') hb)⟩
  · by_cases hj : j = t
    · subst hj; rw [upd_same] at h; cases h
    · rw [upd_ne _ _ hj] at h; exact ⟨h, r.non j h⟩
  · rw [live_upd (by rw [hg]; rfl)] at h1 h2
    exact r.inj j j' b' h1 h2 h3 h4
theorem upd_eta {α : Type} {f : Nat → Option α} {k : Nat} {v : α} (h : f k = some v) : upd f k v = f := by
  funext j
  unfold upd
  split
  · rename_i e; subst e; exact h.symm
  · rfl
end

/-! ### where an append takes its elements from -/
theorem Rdu_append {U : Uns} {w : World} {n : Nat} {B : Blk} {H : Hp} : ∀ {xs ys : List AV} {c d : List Value}, Rdu U w n xs B H c → Rdu U w n ys B H d → Rdu U w n (xs ++ ys) B H (c ++ d)
  | [], ys, c, d, h1, h2 => by simp only [Rdu] at h1; subst h1; simpa using h2
  | x :: xs, ys, c, d, h1, h2 => by
    simp only [Rdu] at h1
    obtain ⟨c1, c2, rfl, hn, h3, h4⟩ := h1
    rw [List.cons_append]
    simp only [Rdu]
    exact ⟨c1, c2 ++ d, by simp, hn, h3, Rdu_append h4 h2⟩
theorem Rdu_len {U : Uns} {w : World} {n : Nat} {B : Blk} {H : Hp} : ∀ {xs : List AV} {c : List Value}, Rdu U w n xs B H c → c.length = xs.length * n
  | [], c, h => by simp only [Rdu] at h; subst h; simp
  | x :: xs, c, h => by
    simp only [Rdu] at h
    obtain ⟨c1, c2, rfl, hn, h3, h4⟩ := h
    have := Rdu_len h4
    rw [List.length_append, List.length_cons, Nat.succ_mul]; omega
mutual
theorem Rd_one {U : Uns} {w : World} : ∀ (x : AV) {B : Blk} {H : Hp} {c : List Value}, Rd U w x B H c → ∀ v ∈ c, v.oneCell' = true
  | .v x, _, _, c, h => by simp only [Rd] at h; obtain ⟨h1, rfl⟩ := h; simpa using plain_one h1
  | .agg n fs, _, _, c, h => by simp only [Rd] at h; exact Rds_one fs h.2
  | .arr m n xs, _, _, c, h => by simp only [Rd] at h; exact Rdu_one n xs h.2
  | .ptr _ _ _, _, _, c, h => by simp only [Rd] at h; obtain ⟨_, b, _, rfl⟩ := h; simp [Value.oneCell']
  | .ref _, _, _, c, h => by simp only [Rd] at h; obtain ⟨b, off, c', rfl, _⟩ := h; simp [Value.oneCell']
  | .sl _ _ _, _, _, c, h => by simp only [Rd] at h; obtain ⟨A, cap, rfl, _⟩ := h; simp [Value.oneCell']
  | .seg _ _ _ _ _ _, _, _, c, h => by simp only [Rd] at h; obtain ⟨_, b, _, _, _, rfl⟩ := h; simp [Value.oneCell']
  | .tup _, _, _, c, h => by simp [Rd] at h
  | .fn _ _ _, _, _, c, h => by simp only [Rd] at h; obtain ⟨c1, c2, rfl, _⟩ := h; simp [Value.oneCell']
  | .ifc _ _, _, _, c, h => by simp only [Rd] at h; obtain ⟨c1, _, rfl⟩ := h; simp [Value.oneCell']
  | .own _ _ _ _, _, _, c, h => by
    simp only [Rd] at h
    obtain ⟨v, ⟨_, _, _, _, h1, _⟩, rfl⟩ := h
    simpa using h1
theorem Rds_one {U : Uns} {w : World} : ∀ (xs : List AV) {B : Blk} {H : Hp} {c : List Value}, Rds U w xs B H c → ∀ v ∈ c, v.oneCell' = true
  | [], _, _, c, h => by simp only [Rds] at h; subst h; simp
  | x :: xs, _, _, c, h => by
    simp only [Rds] at h
    obtain ⟨c1, c2, rfl, h1, h2⟩ := h
    intro v hv
    rcases List.mem_append.1 hv with hv | hv
    · exact Rd_one x h1 v hv
    · exact Rds_one xs h2 v hv
theorem Rdu_one {U : Uns} {w : World} (n : Nat) : ∀ (xs : List AV) {B : Blk} {H : Hp} {c : List Value}, Rdu U w n xs B H c → ∀ v ∈ c, v.oneCell' = true
  | [], _, _, c, h => by simp only [Rdu] at h; subst h; simp
  | x :: xs, _, _, c, h => by
    simp only [Rdu] at h
    obtain ⟨c1, c2, rfl, _, h1, h2⟩ := h
    intro v hv
    rcases List.mem_append.1 hv with hv | hv
    · exact Rd_one x h1 v hv
    · exact Rdu_one n xs h2 v hv
end
theorem cells_of_row {w : World} {b off n : Nat} {c : List Value} (h : row? w b off n = some c.toArray) : ∀ j u, c[j]? = some u → w.cell? ((⟨b, off, none⟩ : Addr).add j) = some u := by
  intro j u hu
  obtain ⟨h1, h2⟩ := row_cells h
  have hj : j < n := by
    have := (List.getElem?_eq_some_iff.1 hu).1
    simp at h1; omega
  have hadd : (⟨b, off, none⟩ : Addr).add j = ⟨b, off + j, none⟩ := by unfold Addr.add; split <;> simp_all
  rw [hadd, h2 j hj]
  simpa using hu
/-- a source of m elements that read as ys -/
def SrcA (P : Program) (E : Env) (B : Blk) (H : Hp) (w : World) (tx : TypeId) (n : Nat) (v : Value) (ys : List AV) : Prop :=
  ∃ news, Src P n tx v ys.length news w ∧ Rdu (unst E B H) w n ys B0 H0 news
theorem SrcA_sl {P : Program} {E : Env} {B : Blk} {H : Hp} {w : World} {tx e : TypeId} {n : Nat} {v : Value} {tok : Option Nat} {ys : List AV} (hk : P.underlying tx = some (.slice e)) (h : Rd (unst E B H) w (.sl tok n ys) B H [v]) : SrcA P E B H w tx n v ys := by
  simp only [Rd] at h
  obtain ⟨A, cap, h1, h2, h3, h4, _⟩ := h
  injection h1 with h1
  subst h1
  cases ys with
  | nil =>
    cases A with
    | none => exact ⟨[], Src.ofNil w hk cap, by simp [Rdu]⟩
    | some ad => exact ⟨[], Src.ofSlice w hk ad 0 cap [] (by simp) (by simp) (by simp), by simp [Rdu]⟩
  | cons y ys =>
    obtain ⟨b, off, c, rfl, k1, k2, k3⟩ := h4 (by simp)
    exact ⟨c, Src.ofSlice w hk _ _ cap c (Rdu_len k3) (cells_of_row k1) (Rdu_one n _ k3), k3⟩
theorem SrcA_nil {P : Program} {E : Env} {B : Blk} {H : Hp} {w : World} {tx e : TypeId} {n : Nat} (hk : P.underlying tx = some (.slice e)) : SrcA P E B H w tx n (.slice none 0 0) [] := ⟨[], Src.ofNil w hk 0, by simp [Rdu]⟩
def bytesAV (s : ByteArray) : List AV := s.data.toList.map fun b => .v (.int .u8 b.toNat)
theorem bytesAV_rdu {U : Uns} {w : World} (s : ByteArray) : Rdu U w 1 (bytesAV s) B0 H0 (byteCells s) := by
  unfold bytesAV byteCells
  induction s.data.toList with
  | nil => simp [Rdu]
  | cons b l ih =>
    simp only [List.map_cons, Rdu]
    exact ⟨[.int .u8 b.toNat], _, rfl, rfl, by simp [Rd, plain], ih⟩
theorem SrcA_str {P : Program} {E : Env} {B : Blk} {H : Hp} {w : World} {tx : TypeId} {s : ByteArray} (hk : P.underlying tx = some .string) : SrcA P E B H w tx 1 (.string s) (bytesAV s) := by
  have hl : (bytesAV s).length = s.size := by
    unfold bytesAV; rw [List.length_map, Array.length_toList]; rfl
  exact ⟨byteCells s, by rw [hl]; exact Src.ofString w hk s, bytesAV_rdu s⟩
end Go.Proofs.Ytphojngdgmnpaaa

namespace Go.Proofs.Ytphojngdgmnpaaa
open Go Go.RowKit
set_option linter.unusedVariables false
set_option linter.unusedSimpArgs false
set_option maxRecDepth 100000

/-! ### types, as a table -/
inductive TI where
  | word
  | st (n : Nat) (fs : List (Nat × Nat × Bool))
  | arr (n len es : Nat) (ea : Bool) (e : TypeId)
  | sl (e : TypeId) (es bytes : Nat) (ea : Bool)
def TI.sa : TI → Bool × Nat
  | .word => (false, 1)
  | .st n _ => (true, n)
  | .arr n _ _ _ _ => (true, n)
  | .sl _ _ _ _ => (false, 1)
def FOk (P : Program) : List (Nat × TypeId) → List (Nat × Nat × Bool) → Prop
  | [], [] => True
  | (o, t) :: a, (o', s, g) :: b => o = o' ∧ TyOf P t g s ∧ FOk P a b
  | [], _ :: _ => False
  | _ :: _, [] => False
theorem FOk.at {P : Program} : ∀ {l : List (Nat × TypeId)} {fs : List (Nat × Nat × Bool)}, FOk P l fs → ∀ (i o s : Nat) (g : Bool), fs[i]? = some (o, s, g) → ∃ t, l[i]? = some (o, t) ∧ TyOf P t g s
  | [], [], _, i, o, s, g, h => by simp at h
  | (o0, t0) :: a, (o1, s1, g1) :: b, hk, i, o, s, g, h => by
    obtain ⟨h1, h2, h3⟩ := hk
    cases i with
    | zero =>
      simp only [List.getElem?_cons_zero, Option.some.injEq, Prod.mk.injEq] at h
      obtain ⟨rfl, rfl, rfl⟩ := h
      exact ⟨t0, by simp [h1], h2⟩
    | succ i => simpa using h3.at i o s g (by simpa using h)
  | [], _ :: _, h, _, _, _, _, _ => h.elim
  | _ :: _, [], h, _, _, _, _, _ => h.elim
def TiOk (P : Program) (t : TypeId) : TI → Prop
  | .word => TyOf P t false 1
  | .st n fs => TyOf P t true n ∧ ∃ F : Array Field, P.underlying t = some (.struct F) ∧ FOk P (F.toList.map fun f => (f.offset, f.type)) fs
  | .arr n len es ea e => TyOf P t true n ∧ P.underlying t = some (.array len e) ∧ TyOf P e ea es
  | .sl e es bytes ea => TyOf P t false 1 ∧ P.underlying t = some (.slice e) ∧ TyOf P e ea es ∧ ∃ i z, P.info? e = some i ∧ i.zero = some z ∧ i.size = es ∧ i.bytes = bytes ∧ z.cells.size = es
structure Tab (P : Program) where
  ti : TypeId → Option TI
  ok : ∀ t i, ti t = some i → TiOk P t i
def Tab.sa {P : Program} (tb : Tab P) (t : TypeId) : Option (Bool × Nat) := (tb.ti t).map TI.sa
theorem Tab.tyOf {P : Program} (tb : Tab P) {t : TypeId} {g : Bool} {n : Nat} (h : tb.sa t = some (g, n)) : TyOf P t g n := by
  unfold Tab.sa at h
  cases hi : tb.ti t with
  | none => rw [hi] at h; cases h
  | some i =>
    rw [hi] at h
    have := tb.ok t i hi
    cases i <;> simp only [Option.map_some, TI.sa, Option.some.injEq, Prod.mk.injEq] at h <;> obtain ⟨rfl, rfl⟩ := h
    · exact this
    · exact this.1
    · exact this.1
    · exact this.1
theorem run_sizeOf_of {P : Program} {t : TypeId} {g : Bool} {n : Nat} (h : TyOf P t g n) (w : World) : (sizeOf t).run P w = .ok n w := by
  obtain ⟨d, _, _, hi⟩ := h
  cases hq : P.info? t with
  | none => rw [hq] at hi; cases hi
  | some i =>
    have : i.size = n := by simpa [hq] using hi
    simp [sizeOf, typeInfo, hq, this]

theorem fields_at {P : Program} {F : Array Field} {fs : List (Nat × Nat × Bool)} (h4 : FOk P (F.toList.map fun f => (f.offset, f.type)) fs) (i o s : Nat) (g : Bool) (h : fs[i]? = some (o, s, g)) : ∃ f, F[i]? = some f ∧ f.offset = o ∧ TyOf P f.type g s := by
  obtain ⟨ft, k1, k2⟩ := h4.at i o s g h
  rw [List.getElem?_map] at k1
  cases hf : F.toList[i]? with
  | none => rw [hf] at k1; cases k1
  | some f =>
    rw [hf] at k1
    simp only [Option.map_some, Option.some.injEq, Prod.mk.injEq] at k1
    obtain ⟨rfl, rfl⟩ := k1
    exact ⟨f, by simpa using hf, rfl, k2⟩
theorem st_ok {P : Program} {t n : Nat} {F : Array Field} {l : List (Nat × TypeId)} {fs : List (Nat × Nat × Bool)} (h1 : TyOf P t true n) (h2 : P.underlying t = some (.struct F)) (h3 : F.toList.map (fun f => (f.offset, f.type)) = l) (h4 : FOk P l fs) : TiOk P t (.st n fs) := ⟨h1, F, h2, by rw [h3]; exact h4⟩
theorem sl_ok {P : Program} {t e es bytes : Nat} {ea : Bool} (h1 : TyOf P t false 1) (h2 : P.underlying t = some (.slice e)) (h3 : TyOf P e ea es) (h4 : (P.info? e).map (fun i => (i.zero.map fun z => z.cells.size, i.size, i.bytes)) = some (some es, es, bytes)) : TiOk P t (.sl e es bytes ea) := by
  refine ⟨h1, h2, h3, ?_⟩
  cases hi : P.info? e with
  | none => rw [hi] at h4; cases h4
  | some i =>
    rw [hi] at h4
    simp only [Option.map_some, Option.some.injEq, Prod.mk.injEq] at h4
    obtain ⟨k1, k2, k3⟩ := h4
    cases hz : i.zero with
    | none => rw [hz] at k1; cases k1
    | some z =>
      rw [hz] at k1
      simp only [Option.map_some, Option.some.injEq] at k1
      exact ⟨i, z, rfl, hz, k2, k3, k1⟩
def AllOk (P : Program) : List (Nat × TI) → Prop
  | [] => True
  | (t, i) :: l => TiOk P t i ∧ AllOk P l
theorem look_all {P : Program} : ∀ {l : List (Nat × TI)}, AllOk P l → ∀ t i, look t l = some i → TiOk P t i
  | [], _, t, i, h => by cases h
  | (j, x) :: l, hl, t, i, h => by
    simp only [look] at h
    cases hb : Nat.beq j t
    · rw [hb] at h; exact look_all hl.2 t i h
    · rw [hb] at h
      simp only [cond_true, Option.some.injEq] at h
      subst h
      rw [← Nat.eq_of_beq_eq_true hb]
      exact hl.1

/-! ### what lies at a path -/
def sumS : List AV → Nat
  | [] => 0
  | x :: l => sizeA x + sumS l
def fldA (fs : List (Nat × Nat × Bool)) (y : AV) (f : Nat) : Option (Nat × AV) :=
  match fs[f]?, y with
  | some (o, s, _), .agg _ ys => match ys[f]? with
    | some z => bif Nat.beq o (sumS (ys.take f)) && Nat.beq (sizeA z) s && Nat.blt 0 s then some (o, z) else none
    | none => none
  | _, _ => none
theorem fldA_some {fs : List (Nat × Nat × Bool)} {y : AV} {f o : Nat} {z : AV} (h : fldA fs y f = some (o, z)) : ∃ n ys g, y = .agg n ys ∧ ys[f]? = some z ∧ fs[f]? = some (o, sizeA z, g) ∧ o = sumS (ys.take f) ∧ 0 < sizeA z := by
  unfold fldA at h
  split at h
  · rename_i o' s g n ys h1
    split at h
    · rename_i z' h2
      cases hb : (Nat.beq o' (sumS (ys.take f)) && Nat.beq (sizeA z') s && Nat.blt 0 s)
      · rw [hb] at h; cases h
      · rw [hb] at h
        simp only [cond_true, Option.some.injEq, Prod.mk.injEq] at h
        obtain ⟨rfl, rfl⟩ := h
        simp only [Bool.and_eq_true] at hb
        obtain ⟨⟨b1, b2⟩, b3⟩ := hb
        have e1 := Nat.eq_of_beq_eq_true b1
        have e2 := Nat.eq_of_beq_eq_true b2
        have e3 : 0 < s := by simpa using b3
        subst e2
        exact ⟨n, ys, g, rfl, h2, h1, e1, e3⟩
    · cases h
  · cases h
theorem Rds_at {U : Uns} {w : World} {B : Blk} {H : Hp} : ∀ {ys : List AV} {c : List Value} {f : Nat} {z : AV}, Rds U w ys B H c → ys[f]? = some z → ∃ c1 c2 c3, c = c1 ++ c2 ++ c3 ∧ c1.length = sumS (ys.take f) ∧ Rd U w z B H c2 ∧
    ∀ z' c2', Rd U w z' B H c2' → Rds U w (ys.set f z') B H (c1 ++ c2' ++ c3)
  | [], _, _, _, _, h => by simp at h
  | y :: ys, c, 0, z, hr, h => by
    simp only [Rds] at hr
    obtain ⟨c1, c2, rfl, h1, h2⟩ := hr
    simp at h
    subst h
    refine ⟨[], c1, c2, rfl, rfl, h1, fun z' c2' h3 => ?_⟩
    simp only [List.set_cons_zero, List.nil_append, Rds]
    exact ⟨c2', c2, rfl, h3, h2⟩
  | y :: ys, c, f + 1, z, hr, h => by
    simp only [Rds] at hr
    obtain ⟨c1, c2, rfl, h1, h2⟩ := hr
    obtain ⟨d1, d2, d3, rfl, k1, k2, k3⟩ := Rds_at h2 (by simpa using h)
    refine ⟨c1 ++ d1, d2, d3, by simp, by simp [sumS, k1, Rd_len h1], k2, fun z' c2' h3 => ?_⟩
    simp only [List.set_cons_succ, Rds]
    exact ⟨c1, d1 ++ c2' ++ d3, by simp, h1, k3 z' c2' h3⟩
theorem Rdu_at {U : Uns} {w : World} {n : Nat} {B : Blk} {H : Hp} : ∀ {ys : List AV} {c : List Value} {f : Nat} {z : AV}, Rdu U w n ys B H c → ys[f]? = some z → ∃ c1 c2 c3, c = c1 ++ c2 ++ c3 ∧ c1.length = f * n ∧ c2.length = n ∧ Rd U w z B H c2 ∧
    ∀ z' c2', Rd U w z' B H c2' → c2'.length = n → Rdu U w n (ys.set f z') B H (c1 ++ c2' ++ c3)
  | [], _, _, _, _, h => by simp at h
  | y :: ys, c, 0, z, hr, h => by
    simp only [Rdu] at hr
    obtain ⟨c1, c2, rfl, hn, h1, h2⟩ := hr
    simp at h
    subst h
    refine ⟨[], c1, c2, rfl, by simp, hn, h1, fun z' c2' h3 h4 => ?_⟩
    simp only [List.set_cons_zero, List.nil_append, Rdu]
    exact ⟨c2', c2, rfl, h4, h3, h2⟩
  | y :: ys, c, f + 1, z, hr, h => by
    simp only [Rdu] at hr
    obtain ⟨c1, c2, rfl, hn, h1, h2⟩ := hr
    obtain ⟨d1, d2, d3, rfl, k1, k2, k3, k4⟩ := Rdu_at h2 (by simpa using h)
    refine ⟨c1 ++ d1, d2, d3, by simp, by rw [List.length_append, k1, hn, Nat.succ_mul]; omega, k2, k3, fun z' c2' h3 h4 => ?_⟩
    simp only [List.set_cons_succ, Rdu]
    exact ⟨c1, d1 ++ c2' ++ d3, by simp, hn, h1, k4 z' c2' h3 h4⟩
def subA : List Nat → AV → Option AV
  | [], x => some x
  | i :: p, .agg _ ys => match ys[i]? with
    | some y => subA p y
    | none => none
  | i :: p, .arr _ _ ys => match ys[i]? with
    | some y => subA p y
    | none => none
  | _ :: _, _ => none
def offA : List Nat → AV → Nat
  | [], _ => 0
  | i :: p, .agg _ ys => sumS (ys.take i) + offA p (ys.getD i (.v undef))
  | i :: p, .arr _ n ys => i * n + offA p (ys.getD i (.v undef))
  | _ :: _, _ => 0
/-- in an array only plain data may be laid -/
def setA (v : AV) : List Nat → AV → Option AV
  | [], _ => some v
  | i :: p, .agg n ys => match ys[i]? with
    | some y => (setA v p y).map fun z => .agg n (ys.set i z)
    | none => none
  | i :: p, .arr m n ys => match ys[i]?, dataA v with
    | some y, true => (setA v p y).map fun z => .arr m n (ys.set i z)
    | _, _ => none
  | _ :: _, _ => none
theorem Rd_sub {U : Uns} {w : World} {B : Blk} {H : Hp} : ∀ (p : List Nat) {x : AV} {c : List Value} {y : AV}, Rd U w x B H c → subA p x = some y → ∃ c1 c2 c3, c = c1 ++ c2 ++ c3 ∧ c1.length = offA p x ∧ Rd U w y B H c2 ∧
    ∀ v x' c', setA v p x = some x' → Rd U w v B H c' → c'.length = c2.length → Rd U w x' B H (c1 ++ c' ++ c3)
  | [], x, c, y, hr, h => by
    simp only [subA, Option.some.injEq] at h
    subst h
    exact ⟨[], c, [], by simp, rfl, hr, fun v x' c' h1 h2 _ => by simp only [setA, Option.some.injEq] at h1; subst h1; simpa using h2⟩
  | i :: p, .agg n ys, c, y, hr, h => by
    simp only [Rd] at hr
    obtain ⟨hn, hr⟩ := hr
    simp only [subA] at h
    cases hy : ys[i]? with
    | none => rw [hy] at h; cases h
    | some z =>
      rw [hy] at h
      obtain ⟨c1, c2, c3, rfl, k1, k2, k3⟩ := Rds_at hr hy
      obtain ⟨d1, d2, d3, rfl, m1, m2, m3⟩ := Rd_sub p k2 h
      refine ⟨c1 ++ d1, d2, d3 ++ c3, by simp, by simp [offA, k1, m1, hy], m2, fun v x' c' h1 h2 h3 => ?_⟩
      simp only [setA, hy, Option.map_eq_some_iff] at h1
      obtain ⟨z', h4, rfl⟩ := h1
      have h5 := k3 z' _ (m3 v z' c' h4 h2 h3)
      simp only [Rd]
      refine ⟨by simp at hn ⊢; omega, ?_⟩
      simpa using h5
  | i :: p, .arr m n ys, c, y, hr, h => by
    simp only [Rd] at hr
    obtain ⟨hm, hr⟩ := hr
    simp only [subA] at h
    cases hy : ys[i]? with
    | none => rw [hy] at h; cases h
    | some z =>
      rw [hy] at h
      obtain ⟨c1, c2, c3, rfl, k1, kn, k2, k3⟩ := Rdu_at hr hy
      obtain ⟨d1, d2, d3, rfl, m1, m2, m3⟩ := Rd_sub p k2 h
      refine ⟨c1 ++ d1, d2, d3 ++ c3, by simp, by simp [offA, k1, m1, hy], Rd_free _ m2, fun v x' c' h1 h2 h3 => ?_⟩
      simp only [setA, hy] at h1
      cases hd : dataA v with
      | false => rw [hd] at h1; cases h1
      | true =>
        rw [hd] at h1
        simp only [Option.map_eq_some_iff] at h1
        obtain ⟨z', h4, rfl⟩ := h1
        have h5 := k3 z' _ (m3 v z' c' h4 (Rd_data v hd h2) h3) (by simp at kn ⊢; omega)
        simp only [Rd]
        refine ⟨by simp at hm ⊢; omega, ?_⟩
        simpa using h5
  | _ :: _, .v _, _, _, _, h => by simp [subA] at h
  | _ :: _, .ptr _ _ _, _, _, _, h => by simp [subA] at h
  | _ :: _, .ref _, _, _, _, h => by simp [subA] at h
  | _ :: _, .sl _ _ _, _, _, _, h => by simp [subA] at h
  | _ :: _, .seg _ _ _ _ _ _, _, _, _, h => by simp [subA] at h
  | _ :: _, .tup _, _, _, _, h => by simp [subA] at h
  | _ :: _, .fn _ _ _, _, _, _, h => by simp [subA] at h
  | _ :: _, .ifc _ _, _, _, _, h => by simp [subA] at h
  | _ :: _, .own _ _ _ _, _, _, _, h => by simp [subA] at h

theorem pack_if {U : Uns} {w : World} {B : Blk} {H : Hp} {x : AV} {c : List Value} (h : Rd U w x B H c) : (if isAggA x then Value.agg c.toArray else c.headD undef) = pack x c := by
  cases hx : isAggA x
  · have he := (Rd_pack h).2 hx
    rw [he]
    simp
    have : pack x [pack x c] = pack x c := by rw [← he]
    exact this.symm ▸ rfl
  · simp [(Rd_pack h).1 hx]
section
variable {P : Program} {E : Env} {nt : Nat} {ops : Array Oper} {T : Nat → Option AV} {H : Hp} {d : Option Nat} {ty : TypeId} {pos : String} {af : Array Edge} {gd : Option (Nat × Bool)} (tb : Tab P)
theorem size1 {x : AV} : isAggA x = false → sizeA x = 1 := by cases x <;> simp [isAggA, sizeA]
theorem add_lit (b off n : Nat) : (⟨b, off, none⟩ : Addr).add n = ⟨b, off + n, none⟩ := by unfold Addr.add; split <;> simp_all
theorem row_mid {w : World} {b : Nat} {c1 c2 c3 : List Value} {off : Nat} (h : row? w b off (c1 ++ c2 ++ c3).length = some (c1 ++ c2 ++ c3).toArray) : row? w b (off + c1.length) c2.length = some c2.toArray := by
  rw [row_sub h c1.length c2.length (by simp <;> omega)]
  unfold rowOf
  rw [if_pos (by simp <;> omega)]
  congr 1
  apply Array.ext'
  simp [List.extract_eq_take_drop, List.drop_append, List.take_append]
theorem ok_load_ref {x : Operand} {t : TypeId} {y : AV} (hd : dOk nt d = true) (hx : evalO T x = some (.ref y)) (hs : tb.sa t = some (isAggA y, sizeA y)) : OpOK P E nt ops ⟨d, .load t x, ty, pos, af, gd⟩ T H [] ⟨y, []⟩ :=
  ok_val hd fun B T' H' a w r ht hh => by
    have h := Rdv_one (by simp) (r.eval ((ht x (by simp [Op.operands])).trans hx)) rfl
    simp only [Rd] at h
    obtain ⟨b, off, c, h1, h2, h3, h4⟩ := h
    injection h1 with h1
    have hr := run_loadVar_of (tb.tyOf hs) (by rw [← Rd_len h4]; exact h2) size1
    rw [pack_if h4] at hr
    refine ⟨pack y c, ?_, by rw [Rdv_not (Rd_notup h4)]; exact ⟨c, Rd_free y h4, rfl⟩⟩
    simp [execOp, h1, Instr.loadAt, Instr.sureAddr, hr]
theorem ok_fld_ref {x : Operand} {s : TypeId} {f n o : Nat} {fs : List (Nat × Nat × Bool)} {y z : AV} (hd : dOk nt d = true) (hx : evalO T x = some (.ref y)) (hs : tb.ti s = some (.st n fs)) (hf : fldA fs y f = some (o, z)) :
    OpOK P E nt ops ⟨d, .fieldAddr s x f, ty, pos, af, gd⟩ T H [] ⟨.ref z, []⟩ :=
  ok_val hd fun B T' H' a w r ht hh => by
    have h := Rdv_one (by simp) (r.eval ((ht x (by simp [Op.operands])).trans hx)) rfl
    simp only [Rd] at h
    obtain ⟨b, off, c, h1, h2, h3, h4⟩ := h
    injection h1 with h1
    obtain ⟨m, ys, g, rfl, k1, k2, k3, k4⟩ := fldA_some hf
    simp only [Rd] at h4
    obtain ⟨c1, c2, c3, rfl, m1, m2, _⟩ := Rds_at h4.2 k1
    obtain ⟨_, F, hu, hF⟩ := tb.ok s _ hs
    obtain ⟨fd, hfd, hfo, hft⟩ := fields_at hF f o (sizeA z) g k2
    have hz := run_sizeOf_of hft w
    have hne : sizeA z ≠ 0 := by omega
    refine ⟨.pointer (some ⟨b, off + o, none⟩), ?_, ?_⟩
    · simp [execOp, h1, Instr.fieldAt, run_underlying hu, hfd, Instr.sureAddr, fieldPlace, hz, hne, hfo, add_lit]
    · rw [Rdv_not (by simp)]
      refine ⟨[_], ?_, rfl⟩
      simp only [Rd]
      refine ⟨b, off + o, c2, rfl, ?_, fun q hq1 hq2 => h3 q (by omega) (by simp; omega), m2⟩
      rw [k3, ← m1]; exact row_mid h2
theorem ok_idx_sl {x ix : Operand} {t e : TypeId} {es bytes : Nat} {ea : Bool} {tok : Option Nat} {xs : List AV} {k : IntKind} {i : Int} {y : AV} (hd : dOk nt d = true) (hs : tb.ti t = some (.sl e es bytes ea)) (hx : evalO T x = some (.sl tok es xs)) (hi : evalO T ix = some (.v (.int k i)))
    (h0 : 0 ≤ i) (hy : xs[i.toNat]? = some y) : OpOK P E nt ops ⟨d, .indexAddr t x ix, ty, pos, af, gd⟩ T H [] ⟨.ref y, []⟩ :=
  ok_val hd fun B T' H' a w r ht hh => by
    have h := Rdv_one (by simp) (r.eval ((ht x (by simp [Op.operands])).trans hx)) rfl
    have hj := r.evalv ((ht ix (by simp [Op.operands])).trans hi)
    simp only [Rd] at h
    obtain ⟨A, cap, h1, h2, h3, h4, _⟩ := h
    injection h1 with h1
    have hlt : i.toNat < xs.length := (List.getElem?_eq_some_iff.1 hy).1
    obtain ⟨b, off, c, rfl, k1, k2, k3⟩ := h4 (by omega)
    obtain ⟨c1, c2, c3, rfl, m1, mn, m2, _⟩ := Rdu_at k3 hy
    obtain ⟨_, hu, he, _⟩ := tb.ok t _ hs
    have hz := run_sizeOf_of he w
    have hlt' : i < (xs.length : Int) := by omega
    have hl := Rdu_len k3
    refine ⟨.pointer (some ⟨b, off + i.toNat * es, none⟩), ?_, ?_⟩
    · simp [execOp, h1, hj, Instr.indexAt, run_underlying hu, asIntOf, hz, h0, hlt', add_lit]
    · rw [Rdv_not (by simp)]
      refine ⟨[_], ?_, rfl⟩
      simp only [Rd]
      refine ⟨b, off + i.toNat * es, c2, rfl, ?_, fun q hq1 hq2 => k2 q (by omega) (by simp at hl; omega), m2⟩
      rw [← m1]; rw [← hl] at k1; exact row_mid k1
theorem ok_idx_refarr {x ix : Operand} {t e : TypeId} {tn len es : Nat} {ea : Bool} {m : Nat} {xs : List AV} {k : IntKind} {i : Int} {y : AV} (hd : dOk nt d = true) (hs : tb.ti t = some (.arr tn len es ea e)) (hx : evalO T x = some (.ref (.arr m es xs))) (hi : evalO T ix = some (.v (.int k i)))
    (h0 : 0 ≤ i) (hl : i < (len : Int)) (hy : xs[i.toNat]? = some y) : OpOK P E nt ops ⟨d, .indexAddr t x ix, ty, pos, af, gd⟩ T H [] ⟨.ref y, []⟩ :=
  ok_val hd fun B T' H' a w r ht hh => by
    have h := Rdv_one (by simp) (r.eval ((ht x (by simp [Op.operands])).trans hx)) rfl
    have hj := r.evalv ((ht ix (by simp [Op.operands])).trans hi)
    simp only [Rd] at h
    obtain ⟨b, off, c, h1, h2, h3, h4, h5⟩ := h
    injection h1 with h1
    obtain ⟨c1, c2, c3, rfl, m1, mn, m2, _⟩ := Rdu_at h5 hy
    obtain ⟨_, hu, he⟩ := tb.ok t _ hs
    have hz := run_sizeOf_of he w
    refine ⟨.pointer (some ⟨b, off + i.toNat * es, none⟩), ?_, ?_⟩
    · simp [execOp, h1, hj, Instr.indexAt, run_underlying hu, asIntOf, hz, h0, hl, add_lit, Instr.sureAddr]
    · rw [Rdv_not (by simp)]
      refine ⟨[_], ?_, rfl⟩
      simp only [Rd]
      refine ⟨b, off + i.toNat * es, c2, rfl, ?_, fun q hq1 hq2 => h3 q (by omega) (by simp; omega), m2⟩
      rw [← m1]; exact row_mid h2
/-! a variable's own memory -/
def boxAV : Bx → Option AV
  | .var x => some x
  | .froz x => some x
  | .tail _ _ _ => none
  | .own _ _ _ => none
theorem box_row {B : Blk} {a : Act} {w : World} (r : Rel E nt B T H a w) {g b : Nat} {bx : Bx} {x : AV} (hg : H g = some bx) (hx : boxAV bx = some x) (hb : B g = some b) : ∃ cs, row? w b 0 cs.length = some cs.toArray ∧ Rd (unst E B H) w x B H cs := by
  have h := r.box g bx hg
  cases bx with
  | var y =>
    obtain ⟨b', cs, t, k1, k2, k3, _⟩ := h
    rw [hb] at k1; injection k1 with k1; subst k1
    simp only [boxAV, Option.some.injEq] at hx; subst hx
    exact ⟨cs, by rw [row_block k2]; exact rowOf_full _ _ (by simp), k3⟩
  | froz y =>
    obtain ⟨b', cs, k1, k2, _, k4⟩ := h
    rw [hb] at k1; injection k1 with k1; subst k1
    simp only [boxAV, Option.some.injEq] at hx; subst hx
    exact ⟨cs, k2, k4⟩
  | tail e n k => simp [boxAV] at hx
  | own e n xs => simp [boxAV] at hx
theorem ok_load_ptr {x : Operand} {t : TypeId} {g off : Nat} {p : List Nat} {bx : Bx} {y z : AV} (hd : dOk nt d = true) (hx : evalO T x = some (.ptr g off p)) (hg : H g = some bx) (hb : boxAV bx = some y) (hp : subA p y = some z) (ho : offA p y = off) (hs : tb.sa t = some (isAggA z, sizeA z)) :
    OpOK P E nt ops ⟨d, .load t x, ty, pos, af, gd⟩ T H [g] ⟨z, []⟩ :=
  ok_val hd fun B T' H' a w r ht hh => by
    have h := Rdv_one (by simp) (r.eval ((ht x (by simp [Op.operands])).trans hx)) rfl
    simp only [Rd] at h
    obtain ⟨_, b, h1, h2⟩ := h
    injection h2 with h2
    obtain ⟨cs, k1, k2⟩ := box_row r ((hh g (by simp)).trans hg) hb h1
    obtain ⟨c1, c2, c3, rfl, m1, m2, _⟩ := Rd_sub p k2 hp
    have hrow := row_mid k1
    rw [Nat.zero_add, m1, ho] at hrow
    have hr := run_loadVar_of (tb.tyOf hs) (by rw [← Rd_len m2]; exact hrow) size1
    rw [pack_if m2] at hr
    refine ⟨pack z c2, ?_, by rw [Rdv_not (Rd_notup m2)]; exact ⟨c2, m2, rfl⟩⟩
    simp [execOp, h2, Instr.loadAt, Instr.sureAddr, hr]
theorem ok_fld_ptr {x : Operand} {s : TypeId} {f n o sz : Nat} {ag : Bool} {fs : List (Nat × Nat × Bool)} {g off : Nat} {p : List Nat} (hd : dOk nt d = true) (hx : evalO T x = some (.ptr g off p)) (hs : tb.ti s = some (.st n fs)) (hf : fs[f]? = some (o, sz + 1, ag)) :
    OpOK P E nt ops ⟨d, .fieldAddr s x f, ty, pos, af, gd⟩ T H [] ⟨.ptr g (off + o) (p ++ [f]), []⟩ :=
  ok_val hd fun B T' H' a w r ht hh => by
    have h := Rdv_one (by simp) (r.eval ((ht x (by simp [Op.operands])).trans hx)) rfl
    simp only [Rd] at h
    obtain ⟨hv, b, h1, h2⟩ := h
    injection h2 with h2
    obtain ⟨_, F, hu, hF⟩ := tb.ok s _ hs
    obtain ⟨fd, hfd, hfo, hft⟩ := fields_at hF f o (sz + 1) ag hf
    have hz := run_sizeOf_of hft w
    refine ⟨.pointer (some ⟨b, off + o, none⟩), ?_, ?_⟩
    · simp [execOp, h2, Instr.fieldAt, run_underlying hu, hfd, Instr.sureAddr, fieldPlace, hz, hfo, add_lit]
    · rw [Rdv_not (by simp)]
      exact ⟨_, by simp only [Rd]; exact ⟨hv, b, h1, rfl⟩, rfl⟩
theorem ok_idx_ptr {x ix : Operand} {t e : TypeId} {tn len es : Nat} {ea : Bool} {g off : Nat} {p : List Nat} {k : IntKind} {i : Int} (hd : dOk nt d = true) (hs : tb.ti t = some (.arr tn len es ea e)) (hx : evalO T x = some (.ptr g off p)) (hi : evalO T ix = some (.v (.int k i)))
    (h0 : 0 ≤ i) (hl : i < (len : Int)) : OpOK P E nt ops ⟨d, .indexAddr t x ix, ty, pos, af, gd⟩ T H [] ⟨.ptr g (off + i.toNat * es) (p ++ [i.toNat]), []⟩ :=
  ok_val hd fun B T' H' a w r ht hh => by
    have h := Rdv_one (by simp) (r.eval ((ht x (by simp [Op.operands])).trans hx)) rfl
    have hj := r.evalv ((ht ix (by simp [Op.operands])).trans hi)
    simp only [Rd] at h
    obtain ⟨hv, b, h1, h2⟩ := h
    injection h2 with h2
    obtain ⟨_, hu, he⟩ := tb.ok t _ hs
    have hz := run_sizeOf_of he w
    refine ⟨.pointer (some ⟨b, off + i.toNat * es, none⟩), ?_, ?_⟩
    · simp [execOp, h2, hj, Instr.indexAt, run_underlying hu, asIntOf, hz, h0, hl, add_lit, Instr.sureAddr]
    · rw [Rdv_not (by simp)]
      exact ⟨_, by simp only [Rd]; exact ⟨hv, b, h1, rfl⟩, rfl⟩
end
end Go.Proofs.Ytphojngdgmnpaaa

namespace Go.Proofs.Ytphojngdgmnpaaa
open Go Go.RowKit
set_option linter.unusedVariables false
set_option linter.unusedSimpArgs false
set_option maxRecDepth 100000

section
variable {P : Program} {E : Env} {nt : Nat} {ops : Array Oper} {T : Nat → Option AV} {H : Hp} {d : Option Nat} {ty : TypeId} {pos : String} {af : Array Edge} {gd : Option (Nat × Bool)} (tb : Tab P)
def notTup : AV → Bool
  | .tup _ => false
  | _ => true
theorem notTup_ne {x : AV} (h : notTup x = true) : ∀ xs, x ≠ .tup xs := by rintro xs rfl; simp [notTup] at h
/-- an operation that leaves a value, and boxes turned -/
theorem ok_eff {op : Op} {rh : List Nat} {e : Eff} (hd : dOk nt d = true)
    (h : ∀ B T' H' a w, Rel E nt B T' H' a w → (∀ y ∈ op.operands.toList, evalO T' y = evalO T y) → (∀ g ∈ rh, H' g = H g) → (∀ p ∈ e.wr, H' p.1 = H p.1) →
      ∃ v w' B', (execOp a.eval ⟨d, op, ty, pos, af, gd⟩).run P w = .ok (.value v) w' ∧ Rel E nt B' T' (updH H' e.wr) a w' ∧ Rdv (unst E B' (updH H' e.wr)) w' B' (updH H' e.wr) e.val v) : OpOK P E nt ops ⟨d, op, ty, pos, af, gd⟩ T H rh e := by
  intro T' H' ht hh hw B a w r K Q hK
  obtain ⟨v, w', B', h1, h2, h3⟩ := h B T' H' a w r (fun y hy => agree_op ht hy) hh hw
  unfold Oper.wp
  rw [h1]
  exact hK B' _ w' (h2.put hd h3)
theorem pack_cells {U : Uns} {w : World} {B : Blk} {H : Hp} {x : AV} {c : List Value} (h : Rd U w x B H c) : (pack x c).cells = c.toArray := by
  cases hx : isAggA x
  · have he := (Rd_pack h).2 hx
    have hm : pack x c ∈ c := by
      generalize hv : pack x c = v at he
      rw [he]; simp
    have h1 := Rd_one x h (pack x c) hm
    have : (pack x c).cells = #[pack x c] := by
      generalize pack x c = v at h1
      cases v <;> simp [Value.oneCell'] at h1 <;> rfl
    rw [this]
    generalize hv : pack x c = v at he
    rw [he]
  · rw [(Rd_pack h).1 hx]; rfl
theorem run_storeVar_of {t : TypeId} {g : Bool} {n : Nat} (ht : TyOf P t g n) {b off : Nat} {w : World} {C : Array Value} {tt : TypeId} {v : Value} {c : List Value} (hv : v.cells = c.toArray) (hb : w.heap[b]? = some (.cells C tt (0, 0))) (hl : c.length = n) (hfit : off + n ≤ C.size) (h1 : ∀ u ∈ c, u.oneCell' = true) :
    (storeVar t ⟨b, off, none⟩ v).run P w = .ok () (putRow w b off c.toArray) := by
  have hs := storeCells_splice P b tt c off 0 C w (by simpa using hb) (by omega) h1
  have h2 : v.cells.toList = c := by rw [hv]
  have hz := run_sizeOf_of ht w
  have hsz : v.cells.size = n := by rw [hv]; simpa using hl
  simp only [storeVar, Sem.run_bind, hz, Result.andThen_ok, hsz, ne_eq, not_true, if_false, h2]
  simpa using hs
theorem turned_put {w : World} {b off : Nat} {cs : Array Value} : Turned w (putRow w b off cs) b := ⟨rfl, rfl, rfl, putRow_size .., fun k hk => putRow_heap_other hk⟩
theorem splice_mid {c1 c2 c3 c' : List Value} (h : c'.length = c2.length) : splice (c1 ++ c2 ++ c3).toArray c1.length c'.toArray = (c1 ++ c' ++ c3).toArray := by
  unfold splice
  apply Array.ext'
  simp [List.drop_append, List.take_append, h]
theorem ok_store {x y : Operand} {t : TypeId} {g off : Nat} {p : List Nat} {v z old z' : AV} (hd : dOk nt d = true) (hx : evalO T x = some (.ptr g off p)) (hy : evalO T y = some v) (hg : H g = some (.var z)) (hp : subA p z = some old) (ho : offA p z = off) (hv : setA v p z = some z')
    (hs : tb.sa t = some (isAggA v, sizeA v)) (hs' : sizeA v = sizeA old) (hnt : notTup v = true) : OpOK P E nt ops ⟨none, .store t x y, ty, pos, af, gd⟩ T H [] ⟨.tup [], [(g, .var z')]⟩ := by
  intro T' H' ht hh hw B a w r K Q hK
  have h := Rdv_one (by simp) (r.eval ((agree_op ht (by simp [Op.operands])).trans hx)) rfl
  have hv2 := r.eval ((agree_op ht (x := y) (by simp [Op.operands])).trans hy)
  rw [Rdv_not (notTup_ne hnt)] at hv2
  obtain ⟨c', hc1, hc2⟩ := hv2
  simp only [Rd] at h
  obtain ⟨_, b, h1, h2⟩ := h
  injection h2 with h2
  have hg' : H' g = some (.var z) := (hw (g, .var z') (by simp)).trans hg
  obtain ⟨b', cs, tt, k1, k2, k3, k4⟩ := r.box g _ hg'
  rw [h1] at k1; injection k1 with k1; subst k1
  obtain ⟨c1, c2, c3, rfl, m1, m2, m3⟩ := Rd_sub p k3 hp
  have hl : c'.length = c2.length := by rw [Rd_len hc1, Rd_len m2, hs']
  have hst := run_storeVar_of (tb.tyOf hs) (off := off) (v := a.eval y) (c := c') (by rw [hc2]; exact pack_cells hc1) k2 (Rd_len hc1) (by rw [← ho, ← m1, ← Rd_len hc1, hl]; simp <;> omega) (Rd_one v hc1)
  unfold Oper.wp
  have he : (execOp a.eval ⟨none, .store t x y, ty, pos, af, gd⟩).run P w = .ok .skip (putRow w b off c'.toArray) := by
    simp [execOp, h2, Instr.storeAt, Instr.sureAddr, hst]
  rw [he]
  refine hK B _ _ ?_
  have := r.store (x' := z') (cs' := c1 ++ c' ++ c3) hg' h1 k2 (turned_put (off := off) (cs := c'.toArray)) (by rw [putRow_heap_same k2, ← ho, ← m1, splice_mid hl]) (by simp [hl]) (m3 v z' c' hv hc1 hl)
  exact this
/-- the zero value of a type -/
def ZeroOk (P : Program) (t : TypeId) (z : AV) : Prop := ∃ i zv, P.info? t = some i ∧ i.zero = some zv ∧ ∀ U w, Rd U w z B0 H0 zv.cells.toList
theorem ok_alloc {e : TypeId} {z : AV} {g : Nat} (hd : dOk nt d = true) (hz : ZeroOk P e z) (hg : H g = none) : OpOK P E nt ops ⟨d, .alloc e, ty, pos, af, gd⟩ T H [] ⟨.ptr g 0 [], [(g, .var z)]⟩ :=
  ok_eff hd fun B T' H' a w r ht hh hw => by
    obtain ⟨i, zv, h1, h2, h3⟩ := hz
    have hg' : H' g = none := (hw (g, .var z) (by simp)).trans hg
    refine ⟨.pointer (some ⟨w.heap.size, 0, none⟩), w.alloc (.cells zv.cells e), upd B g w.heap.size, ?_, r.new hg' ?_, ?_⟩
    · simp [execOp, Instr.alloc, zeroValue, typeInfo, h1, h2, newVar, newRow]
    · exact ⟨w.heap.size, zv.cells.toList, e, upd_same _ _ _, by rw [heap_alloc_new], Rd_free z (h3 _ _), .inl r.left.size, Tie.none (r.keep _ hg')⟩
    · rw [Rdv_not (by simp)]
      exact ⟨[_], by simp only [Rd]; exact ⟨by simp [updH, upd_same, isVar], w.heap.size, upd_same _ _ _, rfl⟩, rfl⟩
theorem ok_box {e : TypeId} {x : Operand} {z : AV} {g : Nat} (hd : dOk nt d = true) (hx : evalO T x = some z) (hnt : notTup z = true) (hg : H g = none) : OpOK P E nt ops ⟨d, .box e x, ty, pos, af, gd⟩ T H [] ⟨.ptr g 0 [], [(g, .var z)]⟩ :=
  ok_eff hd fun B T' H' a w r ht hh hw => by
    have hg' : H' g = none := (hw (g, .var z) (by simp)).trans hg
    have hv := r.eval ((ht x (by simp [Op.operands])).trans hx)
    rw [Rdv_not (notTup_ne hnt)] at hv
    obtain ⟨c, h1, h2⟩ := hv
    have hlt : ∀ j bj b, H' j = some bj → B j = some b → b < w.heap.size := fun j bj b h1 h2 => r.blk_lt h1 h2
    have pic : Pic w (w.alloc (.cells c.toArray e)) B (upd B g w.heap.size) H' (upd H' g (.var z)) := by
      refine ⟨fun j b h1 h2 => ?_, fun j h => ?_, fun t n len A cap h => ?_, ownPic (Evo.ofExt (U := fun _ _ => False) ((Ext.refl w).alloc _)) fun g' e' n' ys h => ?_⟩
      · have hj : j ≠ g := fun e => by rw [e, hg'] at h1; cases h1
        rw [upd_ne _ _ hj]; exact h2
      · have hj : j ≠ g := fun e => by rw [e, hg'] at h; cases h
        rw [upd_ne _ _ hj]; exact h
      · obtain ⟨e, k, h1, h2, h3⟩ := h
        have hj : t ≠ g := fun e => by rw [e, hg'] at h1; cases h1
        refine ⟨e, k, by rw [upd_ne _ _ hj]; exact h1, h2, ?_⟩
        rw [upd_ne _ _ hj]
        refine fun hk => ⟨(h3 hk).1, fun b hb => ?_⟩
        obtain ⟨k1, cur, k2, k3⟩ := (h3 hk).2 b hb
        exact ⟨k1, cur, (heap_old w _ b (heap_lt k2)).trans k2, k3⟩
      · have hne : g' ≠ g := fun e' => by rw [e', hg'] at h; cases h
        exact ⟨(upd_ne _ _ hne).trans h, upd_ne _ _ hne⟩
    refine ⟨.pointer (some ⟨w.heap.size, 0, none⟩), w.alloc (.cells c.toArray e), upd B g w.heap.size, ?_, r.new hg' ?_, ?_⟩
    · simp [execOp, Instr.box, newVar, newRow, h2, pack_cells h1]
    · exact ⟨w.heap.size, c, e, upd_same _ _ _, by rw [heap_alloc_new], Rd_go (Evo.ofExt ((Ext.refl w).alloc _)) (unst_new hlt) z pic h1, .inl r.left.size, Tie.none (r.keep _ hg')⟩
    · rw [Rdv_not (by simp)]
      exact ⟨[_], by simp only [Rd]; exact ⟨by simp [updH, upd_same, isVar], w.heap.size, upd_same _ _ _, rfl⟩, rfl⟩

/-! ### calls -/
theorem ok_call {f : FuncId} {fn : Func} {args : Array Operand} {ats : Array TypeId} {xs ys : List AV} {y : AV} (hd : dOk nt d = true) (hf : P.funcs[f]? = some fn) (hb : fn.body.isSome = true) (hnm : (fn.name == "runtime.NumGoroutine") = false)
    (hx : args.toList.map (evalO T) = xs.map some) (hc : AFn P f ys y) (hw : ∀ H', WkL H' xs ys) (hnt : xs.all notTup = true) : OpOK P E nt ops ⟨d, .call { callee := .value (.func f), args := args, argTypes := ats }, ty, pos, af, gd⟩ T H [] ⟨y, []⟩ := by
  intro T' H' ht _ _ B a w r K Q hK
  have hargs : ∀ (l : List Operand) (zs : List AV), (∀ o ∈ l, o ∈ args.toList) → l.map (evalO T) = zs.map some → (∀ z ∈ zs, ∀ us, z ≠ .tup us) → Rdp (unst E B H') w zs B H' (l.map a.eval) := by
    intro l
    induction l with
    | nil =>
      intro zs _ h _
      have : zs = [] := by simpa using h.symm
      subst this
      simp [Rdp]
    | cons o l ih =>
      intro zs hm h hn
      cases zs with
      | nil => simp at h
      | cons z zs =>
        simp only [List.map_cons, List.cons.injEq] at h
        have ho := r.eval ((agree_op ht (x := o) (by simp [Op.operands, Call.operands]; right; simpa using hm o List.mem_cons_self)).trans h.1)
        rw [Rdv_not (hn z List.mem_cons_self)] at ho
        obtain ⟨c, h1, h2⟩ := ho
        simp only [List.map_cons, Rdp]
        exact ⟨c, _, by rw [h2], h1, ih zs (fun o ho => hm o (List.mem_cons_of_mem _ ho)) h.2 (fun z hz => hn z (List.mem_cons_of_mem _ hz))⟩
  have hnt' : ∀ z ∈ xs, ∀ us, z ≠ .tup us := fun z hz => notTup_ne (List.all_eq_true.1 hnt z hz)
  have h1 := (hw H').rdp (hargs args.toList xs (fun _ h => h) hx hnt')
  have h2 := hc _ w _ h1
  unfold Oper.wp
  have he : (execOp a.eval ⟨d, .call { callee := .value (.func f), args := args, argTypes := ats }, ty, pos, af, gd⟩).run P w = .ok (.enter f (args.toList.map a.eval).toArray) w := by
    have hb' : fn.body ≠ none := by cases h : fn.body <;> simp_all
    have hn' : fn.name ≠ "runtime.NumGoroutine" := by simpa using hnm
    have ha : (args.toList.map a.eval).toArray = args.map a.eval := by apply Array.ext'; simp
    rw [ha]
    simp [execOp, resolve, Deferred.ofValue, Act.eval, invoke, callFunc, hf, hn', hb']
  rw [he]
  refine Calls.mono h2 ?_
  rintro e w' ⟨v, rfl, h3, h4⟩
  exact hK B _ w' ((r.ext h4).put hd (Rdv_free (Rdv_sub (fun b o h => ⟨r.unst_lt h, h⟩) h3)))

/-! ### appends -/
theorem sl_parts {U : Uns} {w : World} {B : Blk} {H : Hp} {tok : Option Nat} {n : Nat} {xs : List AV} {v : Value} (h : Rd U w (.sl tok n xs) B H [v]) : ∃ A cap, v = .slice A xs.length cap ∧ xs.length ≤ cap ∧ cap ≤ maxLen := by
  simp only [Rd] at h
  obtain ⟨A, cap, h1, h2, h3, _⟩ := h
  injection h1 with h1
  exact ⟨A, cap, h1, h2, h3⟩
theorem firstCells_nil {w : World} (s c : Nat) : (Builtin.firstCells s 0 (.slice none 0 c)).run P w = .ok #[] w := by simp [Builtin.firstCells]
theorem setCells_turned (w : World) (b o : Nat) (vs : List Value) {C : Array Value} {tt : TypeId} (hb : w.heap[b]? = some (.cells C tt (0, 0))) (hf : o + vs.length ≤ C.size) (h1 : ∀ v ∈ vs, v.oneCell' = true) :
    (storeCells ⟨b, o, none⟩ vs).run P w = .ok () (putRow w b o vs.toArray) := by
  have := storeCells_splice P b tt vs o 0 C w (by simpa using hb) (by omega) h1
  simpa using this
theorem run_append_put {w : World} {t tx ty e : TypeId} {i : TypeInfo} (ht : P.underlying t = some (.slice e)) (hi : P.info? e = some i) {b sLen sCap n : Nat} {x : Value} {news : List Value} (hs : Src P i.size tx x n news w) (hroom : sLen + n ≤ sCap)
    {C : Array Value} {tt : TypeId} (hb : w.heap[b]? = some (.cells C tt (0, 0))) (hf : sLen * i.size + news.length ≤ C.size) :
    (Builtin.append_ #[t, tx] ty #[.slice (some ⟨b, 0, none⟩) sLen sCap, x]).run P w = .ok (.slice (some ⟨b, 0, none⟩) (sLen + n) sCap) (putRow w b (sLen * i.size) news.toArray) := by
  have hst := setCells_turned (P := P) w b (sLen * i.size) news hb hf hs.one
  have ha := add_lit b 0 (sLen * i.size)
  rw [Nat.zero_add] at ha
  rcases hs.kind with ⟨e', hk⟩ | hk <;> simp [Builtin.append_, run_underlying ht, run_underlying hk, sizeOf, typeInfo, hi, hs.len, hroom, hs.cells, ha, hst]
/-- append onto a row of the function's own -/
theorem append_run {B : Blk} {a : Act} {w : World} {t tx ty e : TypeId} {es bytes : Nat} {ea : Bool} {tk : Nat} {xs ys : List AV} {sv yv : Value} (r : Rel E nt B T H a w) (hs : tb.ti t = some (.sl e es bytes ea)) (h : Rd (unst E B H) w (.sl (some tk) es xs) B H [sv]) (hg' : H tk = some (.tail e es xs.length))
    (hsrc : SrcA P E B H w tx es yv ys) (hlen : (xs.length + ys.length) * bytes ≤ 140737488355328) (hlen2 : xs.length + ys.length ≤ 9223372036854775807) :
    ∃ v w' B', (Builtin.append_ #[t, tx] ty #[sv, yv]).run P w = .ok v w' ∧ Rel E nt B' T (upd H tk (.tail e es (xs.length + ys.length))) a w' ∧ Rd (unst E B' (upd H tk (.tail e es (xs.length + ys.length)))) w' (.sl (some tk) es (xs ++ ys)) B' (upd H tk (.tail e es (xs.length + ys.length))) [v] := by
    have h0 := h
    obtain ⟨news, hS, hN⟩ := hsrc
    obtain ⟨_, hu, _, i, z, hi, hz, his, hib, hzs⟩ := tb.ok t _ hs
    subst his hib
    have hnl := Rdu_len hN
    simp only [Rd] at h
    obtain ⟨A, cap, h1, h2, h3, h4, h5⟩ := h
    injection h1 with h1
    obtain ⟨e', k, m1, m2, m3⟩ := h5 tk rfl
    rw [hg'] at m1
    injection m1 with m1
    injection m1 with q1 q2 q3
    subst q1 q3
    obtain ⟨n1, n2⟩ := m3 rfl
    have hfl : ys.length = 0 → ys = [] := List.eq_nil_of_length_eq_zero
    by_cases hm : ys.length = 0
    · obtain rfl := hfl hm
      obtain rfl : news = [] := List.eq_nil_of_length_eq_zero (by simpa using hnl)
      have hr := run_append_nothing (P := P) w t tx ty e i hu hi A xs.length cap h2 yv hS
      refine ⟨_, w, B, by rw [h1]; exact hr, ?_, ?_⟩
      · simp only [List.length_nil, Nat.add_zero]
        rw [upd_eta hg']; exact r
      · simp only [List.length_nil, Nat.add_zero, List.append_nil]
        rw [upd_eta hg', ← h1]; exact h0
    · have hpos := (r.box tk _ hg').1
      have htie := (r.box tk _ hg').2.1
      have hbox := (r.box tk _ hg').2.2
      have h63 : ((xs.length + ys.length : Nat) : Int) ≤ 9223372036854775807 := by omega
      have hcmax : ∀ c, grownCap w (xs.length + ys.length) c e ≤ maxLen := fun c => grownCap_le_maxLen w _ c e (by unfold maxLen; omega)
      -- a new block
      have fresh : ∀ (olds : List Value) (c : Nat), c < xs.length + ys.length → Rdu (unst E B H) w i.size xs B0 H0 olds →
          (Builtin.firstCells i.size xs.length (.slice A xs.length c)).run P w.drew = .ok olds.toArray w.drew → cap = c → ∃ v w' B', (Builtin.append_ #[t, tx] ty #[sv, yv]).run P w = .ok v w' ∧ Rel E nt B' T (upd H tk (.tail e i.size (xs.length + ys.length))) a w' ∧
            Rd (unst E B' (upd H tk (.tail e i.size (xs.length + ys.length)))) w' (.sl (some tk) i.size (xs ++ ys)) B' (upd H tk (.tail e i.size (xs.length + ys.length))) [v] := by
        intro olds c hc hO hold hcap
        subst hcap
        have hol := Rdu_len hO
        have hr := run_append_grow_src (P := P) w t tx ty e i z hu hi hz A xs.length cap olds hold yv ys.length news hS hc h63 (growslice_fits (by omega) (by exact hlen))
        have hge := grownCap_ge w (xs.length + ys.length) cap e
        have hsz : ((olds ++ news).toArray ++ Builtin.zeroCells z.cells (grownCap w (xs.length + ys.length) cap e - (xs.length + ys.length))).size = grownCap w (xs.length + ys.length) cap e * i.size := by
          simp only [Array.size_append, List.size_toArray, List.length_append, size_zeroCells, hzs, hol, hnl, ← Nat.add_mul]
          congr 1; omega
        have hrow : row? (w.drew.alloc (.cells ((olds ++ news).toArray ++ Builtin.zeroCells z.cells (grownCap w (xs.length + ys.length) cap e - (xs.length + ys.length))) e)) w.heap.size 0 ((xs ++ ys).length * i.size) = some (olds ++ news).toArray := by
          refine (row_block (b := w.heap.size) (heap_alloc_new w.drew _)).trans ?_
          unfold rowOf
          have hl2 : (xs ++ ys).length * i.size = (olds ++ news).length := by simp [hol, hnl, Nat.add_mul]
          rw [if_pos (by rw [hsz, List.length_append]; have := Nat.mul_le_mul_right i.size hge; omega), hl2]
          congr 1
          apply Array.ext'
          simp
          exact List.take_of_length_le (by simp)
        have hreg := r.regrow (k' := xs.length + ys.length) (o := .cells ((olds ++ news).toArray ++ Builtin.zeroCells z.cells (grownCap w (xs.length + ys.length) cap e - (xs.length + ys.length))) e) hg' (by omega)
          ⟨hpos, htie.grow (by omega), .inr ⟨w.heap.size, _, grownCap w (xs.length + ys.length) cap e, upd_same _ _ _, heap_alloc_new w.drew _, hsz, hge, hcmax cap, .inl r.left.size⟩⟩
        refine ⟨_, _, _, by rw [h1]; exact hr, hreg, ?_⟩
        simp only [Rd]
        have hsub : ∀ b o, b < w.heap.size → unst E (upd B tk w.heap.size) (upd H tk (.tail e i.size (xs.length + ys.length))) b o → unst E B H b o := unst_new fun j bj b h1 h2 => r.blk_lt h1 h2
        have hext : Ext w (w.drew.alloc (.cells ((olds ++ news).toArray ++ Builtin.zeroCells z.cells (grownCap w (xs.length + ys.length) cap e - (xs.length + ys.length))) e)) := (Ext.refl w).drew.alloc _
        refine ⟨some ⟨w.heap.size, 0, none⟩, grownCap w (xs.length + ys.length) cap e, by simp, by simpa using hge, hcmax cap, fun _ => ⟨w.heap.size, 0, olds ++ news, rfl, hrow, fun o _ ho hun => ?_, ?_⟩, fun t' ht' => ?_⟩
        · have hlt := hreg.left.size
          rcases hun with ⟨hlt', _⟩ | ⟨j, hj1, hj2⟩
          · have := r.left.size; omega
          · by_cases hj : j = tk
            · subst hj
              rw [upd_same] at hj2
              have hj2' : (xs.length + ys.length) * i.size ≤ o := hj2
              simp at ho; omega
            · rw [upd_ne _ _ hj] at hj1 hj2
              cases hh : H j with
              | none => rw [hh] at hj2; exact hj2
              | some bj => have := r.blk_lt hh hj1; omega
        · exact Rdu_append (Rdu_go (Evo.ofExt hext) hsub _ xs (Pic.refl0 _ _) hO) (Rdu_go (Evo.ofExt hext) hsub _ ys (Pic.refl0 _ _) hN)
        · injection ht' with ht'
          subst ht'
          refine ⟨e, xs.length + ys.length, upd_same _ _ _, by simp, fun _ => ⟨fun hn => ?_, fun b hb => ?_⟩⟩
          · rw [upd_same] at hn; cases hn
          · rw [upd_same] at hb
            injection hb with hb
            subst hb
            exact ⟨rfl, _, heap_alloc_new w.drew _, hsz⟩
      -- the row as it is
      obtain ⟨olds, hO, hR⟩ : ∃ olds, Rdu (unst E B H) w i.size xs B0 H0 olds ∧ ∀ b, B tk = some b → row? w b 0 (xs.length * i.size) = some olds.toArray := by
        by_cases h0 : xs.length = 0
        · obtain rfl : xs = [] := List.eq_nil_of_length_eq_zero h0
          refine ⟨[], by simp [Rdu], fun b hb => ?_⟩
          obtain ⟨_, cur, k1, _⟩ := n2 b hb
          rw [row_block k1]
          unfold rowOf
          rw [if_pos (by simp)]
          simp
        · obtain ⟨b, off, c, hA, k1, k2, k3⟩ := h4 (by omega)
          refine ⟨c, k3, fun b' hb' => ?_⟩
          obtain ⟨hA', _⟩ := n2 b' hb'
          rw [hA] at hA'
          injection hA' with hA'
          injection hA' with e1 e2
          subst e1 e2
          exact k1
      have hol := Rdu_len hO
      rcases hbox with ⟨hbn, hk0⟩ | ⟨b, cur0, cap0, hb, hcur0, _, _, _, hbw⟩
      · obtain ⟨hA, hc0⟩ := n1 hbn
        obtain rfl : xs = [] := List.eq_nil_of_length_eq_zero hk0
        obtain rfl : olds = [] := List.eq_nil_of_length_eq_zero (by simpa using hol)
        exact fresh [] cap (by simp; omega) hO (by rw [hA]; simp [Builtin.firstCells]) rfl
      · obtain ⟨hA, cur, hcur, hcs⟩ := n2 b hb
        have hrow0 := hR b hb
        by_cases hroom : xs.length + ys.length ≤ cap
        · have hfit : xs.length * i.size + news.length ≤ cur.size := by rw [hnl, hcs, ← Nat.add_mul]; exact Nat.mul_le_mul_right _ hroom
          have hr := run_append_put (P := P) (ty := ty) hu hi hS hroom hcur hfit
          have hput := putRow_heap_same (off := xs.length * i.size) (cs := news.toArray) hcur
          have hsp : (splice cur (xs.length * i.size) news.toArray).size = cur.size := splice_size _ _ _ (by simpa using hfit)
          have hge : ∀ o, o < xs.length * i.size → (splice cur (xs.length * i.size) news.toArray)[o]? = cur[o]? := fun o ho => by rw [splice_get (by simpa using hfit), if_neg (by omega)]
          have hrm := r.room (k' := xs.length + ys.length) hg' (by omega) hb hcur hcs hroom h3 turned_put hput hsp hge
          refine ⟨_, _, B, by rw [h1, hA]; exact hr, hrm, ?_⟩
          have hsub : ∀ b' o, b' < w.heap.size → unst E B (upd H tk (.tail e i.size (xs.length + ys.length))) b' o → unst E B H b' o := by
            rintro b' o _ (h | ⟨j, hj1, hj2⟩)
            · exact .inl h
            · refine .inr ⟨j, hj1, ?_⟩
              by_cases hj : j = tk
              · subst hj
                rw [upd_same] at hj2
                rw [hg']
                have h' : (xs.length + ys.length) * i.size ≤ o := hj2
                have : xs.length * i.size ≤ (xs.length + ys.length) * i.size := Nat.mul_le_mul_right _ (by omega)
                show xs.length * i.size ≤ o
                omega
              · rwa [upd_ne _ _ hj] at hj2
          have hevo : Evo (unst E B H) w (putRow w b (xs.length * i.size) news.toArray) := turned_put.evo hcur hput hsp fun o ho => by
            rcases Nat.lt_or_ge o (xs.length * i.size) with h' | h'
            · exact hge o h'
            · exact absurd (.inr ⟨tk, hb, by rw [hg']; exact h'⟩) ho
          simp only [Rd]
          refine ⟨some ⟨b, 0, none⟩, cap, by simp, by simpa using hroom, h3, fun _ => ⟨b, 0, olds ++ news, rfl, ?_, fun o _ ho hun => ?_, ?_⟩, fun t' ht' => ?_⟩
          · rw [row_block hput]
            rw [row_block hcur] at hrow0
            obtain ⟨r1, r2, r3⟩ := rowOf_spec hrow0
            have hl2 : (xs ++ ys).length * i.size = (olds ++ news).length := by simp [hol, hnl, Nat.add_mul]
            unfold rowOf
            rw [if_pos (by rw [hsp, hl2]; simp; omega)]
            congr 1
            apply Array.ext_getElem?
            intro q
            rw [Array.getElem?_extract, hsp]
            by_cases hq : q < (olds ++ news).length
            · rw [if_pos (by rw [hl2]; simp at hq ⊢; omega), Nat.zero_add, splice_get (by simpa using hfit)]
              by_cases hq2 : q < xs.length * i.size
              · have := r3 q hq2
                rw [Nat.zero_add] at this
                rw [if_neg (by omega), this]
                simp [List.getElem?_append, show q < olds.length by omega]
              · rw [if_pos (by simp at hq ⊢; omega)]
                simp [List.getElem?_append, show ¬ q < olds.length by omega, hol]
                intro h'; omega
            · rw [if_neg (by rw [hl2]; simp at hq ⊢; omega), Array.getElem?_eq_none (by simpa using hq)]
          · have hblt := heap_lt hcur
            rcases hun with ⟨hlt', _, hne'⟩ | ⟨j, hj1, hj2⟩
            · rcases hbw with hbw | hbw
              · omega
              · exact hne' hbw.2.1
            · by_cases hj : j = tk
              · subst hj
                rw [upd_same] at hj2
                have hj2' : (xs.length + ys.length) * i.size ≤ o := hj2
                simp at ho; omega
              · rw [upd_ne _ _ hj] at hj2
                cases hh : H j with
                | none => rw [hh] at hj2; exact hj2
                | some bj =>
                  rw [hh] at hj2
                  refine hj (r.inj j tk b ?_ (by rw [hg']; rfl) hj1 hb)
                  rw [hh]
                  cases bj <;> first | rfl | exact hj2.elim
          · exact Rdu_append (Rdu_go hevo hsub _ xs (Pic.refl0 _ _) hO) (Rdu_go hevo hsub _ ys (Pic.refl0 _ _) hN)
          · injection ht' with ht'
            subst ht'
            refine ⟨e, xs.length + ys.length, upd_same _ _ _, by simp, fun _ => ⟨fun hn => ?_, fun b' hb' => ?_⟩⟩
            · rw [hb] at hn; cases hn
            · rw [hb] at hb'
              injection hb' with hb'
              subst hb'
              exact ⟨rfl, _, hput, by rw [hsp]; exact hcs⟩
        · refine fresh olds cap (by omega) hO ?_ rfl
          rw [hA]
          exact run_firstCells_some (P := P) w.drew i.size xs.length ⟨b, 0, none⟩ xs.length cap olds (by rw [hol]) (by simpa using cells_of_row hrow0)

theorem unst_none {B : Blk} {g : Nat} {bx : Bx} (hg : H g = none) (hb : B g = none) {b o : Nat} : unst E B (upd H g bx) b o ↔ unst E B H b o := by
  unfold unst
  refine or_congr Iff.rfl (exists_congr fun j => and_congr_right fun hj => ?_)
  by_cases h : j = g
  · subst h; rw [hb] at hj; cases hj
  · rw [upd_ne _ _ h]
/-- a row that has no block yet -/
theorem Rel.token {B : Blk} {a : Act} {w : World} (r : Rel E nt B T H a w) {g n : Nat} {e : TypeId} (hg : H g = none) (hn : 0 < n) : Rel E nt B T (upd H g (.tail e n 0)) a w := by
  have hb := r.non g hg
  have pic : Pic w w B B H (upd H g (.tail e n 0)) := by
    refine ⟨fun _ _ _ h => h, fun j h => ?_, fun t n len A cap h => ?_, ownPic (Evo.refl (fun _ _ => False) w) fun g' e' n' ys h => ?_⟩
    · have hj : j ≠ g := fun e => by rw [e, hg] at h; cases h
      rw [upd_ne _ _ hj]; exact h
    · obtain ⟨e', k, h1, h2⟩ := h
      have hj : t ≠ g := fun e => by rw [e, hg] at h1; cases h1
      exact ⟨e', k, by rw [upd_ne _ _ hj]; exact h1, h2⟩
    · have hne : g' ≠ g := fun e' => by rw [e', hg] at h; cases h
      exact ⟨(upd_ne _ _ hne).trans h, rfl⟩
  refine r.move (Evo.refl _ w) (fun b o _ h => (unst_none hg hb).1 h) pic r.left (fun j bj h => ?_) (fun j h => ?_) (fun j j' b h1 h2 h3 h4 => ?_)
  · by_cases hj : j = g
    · subst hj; rw [upd_same] at h; injection h with h; subst h; exact .inl ⟨hn, Tie.none (r.keep _ hg), .inl ⟨hb, rfl⟩⟩
    · rw [upd_ne _ _ hj] at h
      exact .inr ⟨h, rfl, fun _ _ _ => rfl⟩
  · by_cases hj : j = g
    · subst hj; rw [upd_same] at h; cases h
    · rw [upd_ne _ _ hj] at h; exact ⟨h, r.non j h⟩
  · have hne : ∀ j, B j = some b → j ≠ g := fun j h e => by rw [e, hb] at h; cases h
    rw [upd_ne _ _ (hne j h3)] at h1
    rw [upd_ne _ _ (hne j' h4)] at h2
    exact r.inj j j' b h1 h2 h3 h4
theorem nil_token {U : Uns} {w : World} {B : Blk} {g n : Nat} {e : TypeId} (hg : H g = some (.tail e n 0)) (hb : B g = none) : Rd U w (.sl (some g) n []) B H [.slice none 0 0] := by
  simp only [Rd]
  refine ⟨none, 0, rfl, Nat.le_refl _, Nat.zero_le _, fun h => absurd h (by simp), fun t ht => ?_⟩
  injection ht with ht
  subst ht
  exact ⟨e, 0, hg, Nat.le_refl _, fun _ => ⟨fun _ => ⟨rfl, rfl⟩, fun b hb' => by rw [hb] at hb'; cases hb'⟩⟩
theorem SrcA.congr {B : Blk} {H' : Hp} {w : World} {tx : TypeId} {n : Nat} {v : Value} {ys : List AV} (h : SrcA P E B H w tx n v ys) (hu : ∀ b o, unst E B H' b o → unst E B H b o) : SrcA P E B H' w tx n v ys := by
  obtain ⟨news, h1, h2⟩ := h
  exact ⟨news, h1, Rdu_go (Evo.refl _ w) (fun b o _ h => hu b o h) n ys (Pic.refl0 _ _) h2⟩
/-- what an append's second operand may be -/
def SrcOf (P : Program) (tx : TypeId) (n : Nat) (src : AV) (ys : List AV) : Prop := ∀ E B H w v, Rdv (unst E B H) w B H src v → SrcA P E B H w tx n v ys
theorem src_sl {tx e : TypeId} {es bytes : Nat} {ea : Bool} {tok : Option Nat} {ys : List AV} (hs : tb.ti tx = some (.sl e es bytes ea)) : SrcOf P tx es (.sl tok es ys) ys := fun E B H w v h =>
  SrcA_sl (tb.ok tx _ hs).2.1 (Rdv_one (by simp) h rfl)
theorem src_nil {tx e : TypeId} {es bytes n : Nat} {ea : Bool} (hs : tb.ti tx = some (.sl e es bytes ea)) : SrcOf P tx n (.v (.slice none 0 0)) [] := fun E B H w v h => by
  rw [Rdv_v] at h
  rw [h.2]
  exact SrcA_nil (tb.ok tx _ hs).2.1
theorem src_str {tx : TypeId} {s : ByteArray} (hs : P.underlying tx = some .string) : SrcOf P tx 1 (.v (.string s)) (bytesAV s) := fun E B H w v h => by
  rw [Rdv_v] at h
  rw [h.2]
  exact SrcA_str hs
theorem ok_append {s x : Operand} {t tx e : TypeId} {es bytes : Nat} {ea : Bool} {tk : Nat} {xs ys : List AV} {src : AV} (hd : dOk nt d = true) (hs : tb.ti t = some (.sl e es bytes ea)) (hx : evalO T s = some (.sl (some tk) es xs)) (hg : H tk = some (.tail e es xs.length))
    (hy : evalO T x = some src) (hsrc : SrcOf P tx es src ys) (hlen : (xs.length + ys.length) * bytes ≤ 140737488355328) (hlen2 : xs.length + ys.length ≤ 9223372036854775807) :
    OpOK P E nt ops ⟨d, .call { callee := .builtin .append, args := #[s, x], argTypes := #[t, tx] }, ty, pos, af, gd⟩ T H [tk] ⟨.sl (some tk) es (xs ++ ys), [(tk, .tail e es (xs.length + ys.length))]⟩ :=
  ok_eff hd fun B T' H' a w r ht hh hw => by
    have hg' : H' tk = some (.tail e es xs.length) := (hh tk (by simp)).trans hg
    have h := Rdv_one (by simp) (r.eval ((ht s (by simp [Op.operands, Call.operands])).trans hx)) rfl
    obtain ⟨v, w', B', h1, h2, h3⟩ := append_run tb (ty := ty) r hs h hg' (hsrc E B H' w _ (r.eval ((ht x (by simp [Op.operands, Call.operands])).trans hy))) hlen hlen2
    refine ⟨v, w', B', by simp [execOp, resolve, invoke, builtin, h1], h2, ?_⟩
    rw [Rdv_not (by simp)]
    exact ⟨[v], h3, rfl⟩
/-- append onto nil: a row is made -/
theorem ok_append_nil {s x : Operand} {t tx e : TypeId} {es bytes : Nat} {ea : Bool} {tk : Nat} {ys : List AV} {src : AV} (hd : dOk nt d = true) (hs : tb.ti t = some (.sl e (es + 1) bytes ea)) (hx : evalO T s = some (.v (.slice none 0 0))) (hg : H tk = none)
    (hy : evalO T x = some src) (hsrc : SrcOf P tx (es + 1) src ys) (hlen : ys.length * bytes ≤ 140737488355328) (hlen2 : ys.length ≤ 9223372036854775807) :
    OpOK P E nt ops ⟨d, .call { callee := .builtin .append, args := #[s, x], argTypes := #[t, tx] }, ty, pos, af, gd⟩ T H [] ⟨.sl (some tk) (es + 1) ys, [(tk, .tail e (es + 1) ys.length)]⟩ :=
  ok_eff hd fun B T' H' a w r ht hh hw => by
    have hg' : H' tk = none := (hw (tk, .tail e (es + 1) ys.length) (by simp)).trans hg
    have hb := r.non tk hg'
    have h := r.evalv ((ht s (by simp [Op.operands, Call.operands])).trans hx)
    have hS := (hsrc E B H' w _ (r.eval ((ht x (by simp [Op.operands, Call.operands])).trans hy))).congr (H' := upd H' tk (.tail e (es + 1) 0)) (fun b o h => (unst_none hg' hb).1 h)
    obtain ⟨v, w', B', h1, h2, h3⟩ := append_run tb (ty := ty) (xs := []) (r.token (e := e) hg' (Nat.succ_pos es)) hs (nil_token (upd_same _ _ _) hb) (upd_same _ _ _) hS (by simpa using hlen) (by simpa using hlen2)
    have eu : upd (upd H' tk (.tail e (es + 1) 0)) tk (.tail e (es + 1) (([] : List AV).length + ys.length)) = upd H' tk (.tail e (es + 1) ys.length) := by
      funext j
      simp only [upd, List.length_nil, Nat.zero_add]
      split <;> rfl
    rw [eu] at h2 h3
    refine ⟨v, w', B', by simp [execOp, resolve, invoke, builtin, h, h1], h2, ?_⟩
    rw [Rdv_not (by simp)]
    exact ⟨[v], by rw [List.nil_append] at h3; exact h3, rfl⟩
end
end Go.Proofs.Ytphojngdgmnpaaa
