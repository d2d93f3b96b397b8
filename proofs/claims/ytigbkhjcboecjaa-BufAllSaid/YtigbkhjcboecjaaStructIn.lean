/-
  StructIn: slices of structs that are handed in, read as lists. Of each element: its cells, its numbers' bounds.
-/
import Derived.Test.YtigbkhjcboecjaaAbsTac
import Derived.OpenShut
import Derived.Deep.Slices
import Derived.Deep.Strs
import Derived.WideShapes
namespace Go.Proofs.Ytigbkhjcboecjaa
open Go Go.RowKit
set_option linter.unusedVariables false
set_option linter.unusedSimpArgs false

section
variable {H : Type} {enc : TypeId × Value → H} {P : Program} {w : World} {base : Nat} {spare : Nat → Bool} {held : Bool} {fuel : Nat} {t : TypeId} {cs : List Value} {x : DataW H × List MemPlace}
theorem in_bytes {m : Nat} {e : TypeId} (ht : P.underlying t = some (.array m e)) (he : P.underlying e = some (.int .u8)) (hc : P.cellsOf e = 1) (hct : P.cellsOf t = m) (h : DataW.trod enc P w base spare held fuel t cs = some x) : ∃ b : Vector (BitVec 8) m, cs = (bArr b).toList := by
  obtain ⟨xs, n, _, _, hl, hx, hi⟩ := DataW.trod_array ht h
  rw [hct] at hl
  have each : ∀ i (hi : i < cs.length), ∃ z : Int, cs[i] = .int .u8 z ∧ 0 ≤ z ∧ z ≤ 255 := fun i hil => by
    have h1 := hi i (by omega)
    rw [hc, Nat.mul_one, List.getElem?_eq_getElem (by omega)] at h1
    obtain ⟨z, h2, _, h3⟩ := DataW.trod_int he h1
    rw [List.drop_eq_getElem_cons hil] at h2
    simp only [List.take_succ_cons, List.take_zero, List.cons.injEq, and_true] at h2
    exact ⟨z, h2, bounds_u8 h3⟩
  refine ⟨Vector.ofFn fun i => BitVec.ofInt 8 (intOf (cs.getD i.1 undef)), ?_⟩
  apply List.ext_getElem
  · simp [bArr_size, hl]
  · intro i h1 h2
    obtain ⟨z, h3, h4, h5⟩ := each i h1
    have := bArr_get (Vector.ofFn fun i => BitVec.ofInt 8 (intOf (cs.getD i.1 undef)) : Vector (BitVec 8) m) i (by omega)
    have h6 : (bArr (Vector.ofFn fun i => BitVec.ofInt 8 (intOf (cs.getD i.1 undef)) : Vector (BitVec 8) m)).toList[i]? = some (.int .u8 z) := by
      rw [Array.getElem?_toList, this]
      simp only [Vector.getElem_ofFn, List.getD_eq_getElem?_getD, List.getElem?_eq_getElem h1, Option.getD_some, h3, intOf]
      rw [B8_ofInt _ h4 (by omega)]
    rw [List.getElem?_eq_getElem h2] at h6
    rw [h3]
    exact (Option.some.inj h6).symm
theorem in_i64 (ht : P.underlying t = some (.int .i64)) (h : DataW.trod enc P w base spare held fuel t cs = some x) : ∃ n : Int, cs = [.int .i64 n] ∧ -9223372036854775808 ≤ n ∧ n ≤ 9223372036854775807 := by
  obtain ⟨n, h1, _, h2⟩ := DataW.trod_int ht h
  exact ⟨n, h1, bounds_i64 h2⟩
theorem in_u64 (ht : P.underlying t = some (.int .u64)) (h : DataW.trod enc P w base spare held fuel t cs = some x) : ∃ n : BitVec 64, cs = [.int .u64 (D64 n)] := by
  obtain ⟨n, h1, _, h2⟩ := DataW.trod_int ht h
  have := bounds_u64 h2
  exact ⟨BitVec.ofInt 64 n, by rw [D64_ofInt _ (by omega) (by omega)]; exact h1⟩
theorem row_of_cells {w : World} {b off n : Nat} {c : Array Value} (h : ∀ k, k < n → w.cell? ⟨b, off + k, none⟩ = c[k]?) (hs : c.size = n) (hn : 0 < n) : row? w b off n = some c := by
  have h0 := h 0 hn
  rw [Array.getElem?_eq_getElem (by omega)] at h0
  unfold World.cell? at h0
  split at h0
  · rename_i cs t fr hb
    rw [row_block hb]
    have each : ∀ k, k < n → cs[off + k]? = c[k]? := fun k hk => by
      have h1 := h k hk
      unfold World.cell? at h1
      simp only [hb, Option.isSome_none, Bool.false_eq_true, if_false] at h1
      exact h1
    have hlast := each (n - 1) (by omega)
    rw [Array.getElem?_eq_getElem (show n - 1 < c.size by omega)] at hlast
    have hlt := (Array.getElem?_eq_some_iff.1 hlast).1
    unfold rowOf
    rw [if_pos (by omega)]
    congr 1
    apply Array.ext_getElem?
    intro k
    rw [Array.getElem?_extract]
    by_cases hk : k < n
    · rw [if_pos (by omega)]; exact each k hk
    · rw [if_neg (by omega), Array.getElem?_eq_none (by omega)]
  · cases h0
/-- whatever the elements: a slice of them -/
theorem in_slice {α : Type} [Inhabited α] (D : DT α) (Q : α → Prop) (ht : P.underlying t = some (.slice D.t)) (hc : P.cellsOf D.t = D.n) (each : ∀ {fuel : Nat} {cs : List Value} {x : DataW H × List MemPlace}, DataW.trod enc P w base spare held fuel D.t cs = some x → ∃ a : α, cs = (D.arr a).toList ∧ Q a)
    (h : DataW.trod enc P w base spare held fuel t cs = some x) : ∃ v xs, cs = [v] ∧ Sl D.arr D.n w v xs ∧ ∀ a ∈ xs, Q a := by
  rcases Go.Deep.open_slice ht h with ⟨h1, _⟩ | ⟨a, len, cap, m, n, Da, Pl, rfl, hb, hl, hm, hmm, _, hx⟩
  · exact ⟨_, [], h1, Sl.nil _ _ _, fun a h => by cases h⟩
  · rw [hc] at hx
    have hlm : len ≤ m := by rw [hmm]; split <;> omega
    obtain ⟨f, hf⟩ := Go.Deep.choose_lt (α := α) (p := fun i y => w.cells? base (a.add (i * D.n)) D.n = some (D.arr y).toList ∧ Q y) (n := len) (fun i hi => by
      obtain ⟨cs', k1, k2⟩ := hx i (by omega)
      obtain ⟨y, rfl, hq⟩ := each k2
      exact ⟨y, k1, hq⟩)
    refine ⟨_, (List.range len).map f, rfl, ⟨some a, cap, by simp, by simpa using hl, hm, fun h0 => ?_⟩, fun y hy => ?_⟩
    · have hsz := fun y => D.enc.size y
      have hpos := D.enc.pos
      obtain ⟨b, off, spot⟩ := a
      have h0' : 0 < len := by simpa using h0
      have hc0 := (World.cells?_some (hf 0 h0').1).2.2 0 (by omega)
      rw [Array.getElem?_toList, Array.getElem?_eq_getElem (by rw [hsz]; omega)] at hc0
      have hspot : spot = none := by simpa [Addr.add] using World.cell?_spot hc0
      subst hspot
      have hadd : ∀ o k, (⟨b, o, none⟩ : Addr).add k = ⟨b, o + k, none⟩ := fun o k => by unfold Addr.add; split <;> simp_all
      have hb' : b < w.heap.size := by
        have := block_lt_of_cell hc0
        simpa [hadd] using this
      refine ⟨b, off, rfl, hb', fun i hi => ?_⟩
      have hi' : i < len := by simpa using hi
      have h1 := (World.cells?_some (hf i hi').1).2.2
      simp only [List.getElem_map, List.getElem_range]
      refine row_of_cells (fun k hk => ?_) (hsz _) hpos
      have := h1 k hk
      rw [hadd, hadd] at this
      rw [this, Array.getElem?_toList]
    · obtain ⟨i, hi, rfl⟩ := List.mem_map.1 hy
      exact (hf i (List.mem_range.1 hi)).2
end
section
variable {H : Type} {enc : TypeId × Value → H} {w : World} {base : Nat} {spare : Nat → Bool} {held : Bool} {fuel : Nat} {cs : List Value} {x : DataW H × List MemPlace}
theorem in_Key (h : DataW.trod enc Try.prog w base spare held fuel 27 cs = some x) : ∃ k : Key, cs = k.arr.toList ∧ -9223372036854775808 ≤ k.n ∧ k.n ≤ 9223372036854775807 := by
  obtain ⟨y0, y1, n, _, hl, h0, h1⟩ := Go.ChangeShapes.trod_struct2 Try.underlying27 h
  obtain ⟨z, e0, hz⟩ := in_i64 Try.underlying3 h0
  obtain ⟨b, e1⟩ := in_bytes (m := 8) Try.underlying25 Try.underlying5 (by kernel_rfl) (by kernel_rfl) h1
  have hl' : cs.length = 9 := hl.trans (by kernel_rfl)
  refine ⟨⟨z, b⟩, ?_, hz⟩
  rw [show Try.prog.cellsOf 3 = 1 from by kernel_rfl, List.drop_zero] at e0
  rw [show Try.prog.cellsOf 25 = 8 from by kernel_rfl] at e1
  rw [List.take_of_length_le (by simp; omega)] at e1
  rw [← List.take_append_drop 1 cs, e0, e1, Key.arr_def, cat_def, cel_def]
  simp
theorem in_Vl (h : DataW.trod enc Try.prog w base spare held fuel 34 cs = some x) : ∃ k : Vl, cs = k.arr.toList ∧ -9223372036854775808 ≤ k.n ∧ k.n ≤ 9223372036854775807 := by
  obtain ⟨y0, y1, n, _, hl, h0, h1⟩ := Go.ChangeShapes.trod_struct2 Try.underlying34 h
  obtain ⟨z, e0, hz⟩ := in_i64 Try.underlying3 h0
  obtain ⟨b, e1⟩ := in_bytes (m := 16) Try.underlying32 Try.underlying5 (by kernel_rfl) (by kernel_rfl) h1
  have hl' : cs.length = 17 := hl.trans (by kernel_rfl)
  refine ⟨⟨z, b⟩, ?_, hz⟩
  rw [show Try.prog.cellsOf 3 = 1 from by kernel_rfl, List.drop_zero] at e0
  rw [show Try.prog.cellsOf 32 = 16 from by kernel_rfl] at e1
  rw [List.take_of_length_le (by simp; omega)] at e1
  rw [← List.take_append_drop 1 cs, e0, e1, Vl.arr_def, cat_def, cel_def]
  simp
theorem in_Ent (h : DataW.trod enc Try.prog w base spare held fuel 75 cs = some x) : ∃ k : Ent, cs = k.arr.toList ∧ (-9223372036854775808 ≤ k.key.n ∧ k.key.n ≤ 9223372036854775807) ∧ (-9223372036854775808 ≤ k.val.n ∧ k.val.n ≤ 9223372036854775807) := by
  obtain ⟨y0, y1, n, _, hl, h0, h1⟩ := Go.ChangeShapes.trod_struct2 Try.underlying75 h
  obtain ⟨k, e0, hk⟩ := in_Key h0
  obtain ⟨v, e1, hv⟩ := in_Vl h1
  have hl' : cs.length = 26 := hl.trans (by kernel_rfl)
  refine ⟨⟨k, v⟩, ?_, hk, hv⟩
  rw [show Try.prog.cellsOf 27 = 9 from by kernel_rfl, List.drop_zero] at e0
  rw [show Try.prog.cellsOf 34 = 17 from by kernel_rfl] at e1
  rw [List.take_of_length_le (by simp; omega)] at e1
  rw [← List.take_append_drop 9 cs, e0, e1, Ent.arr_def, cat_def]
  simp
theorem in_Msg (h : DataW.trod enc Try.prog w base spare held fuel 36 cs = some x) : ∃ k : Msg, cs = k.arr.toList ∧ (-9223372036854775808 ≤ k.kind ∧ k.kind ≤ 9223372036854775807) := by
  obtain ⟨ys, n, _, _, hl, hys, hf⟩ := DataW.trod_struct Try.underlying36 h
  have hys' : ys.length = 5 := hys
  match ys, hys' with
  | [y0, y1, y2, y3, y4], _ =>
    obtain ⟨k0, e0, hk⟩ := in_i64 Try.underlying3 (show DataW.trod enc Try.prog w base spare held n 3 ((cs.drop 0).take (Try.prog.cellsOf 3)) = some y0 from hf 0 _ rfl)
    obtain ⟨k1, e1⟩ := in_u64 Try.underlying31 (show DataW.trod enc Try.prog w base spare held n 31 ((cs.drop 1).take (Try.prog.cellsOf 31)) = some y1 from hf 1 _ rfl)
    obtain ⟨k2, e2, _⟩ := in_Key (show DataW.trod enc Try.prog w base spare held n 27 ((cs.drop 2).take (Try.prog.cellsOf 27)) = some y2 from hf 2 _ rfl)
    obtain ⟨k3, e3, _⟩ := in_Vl (show DataW.trod enc Try.prog w base spare held n 34 ((cs.drop 11).take (Try.prog.cellsOf 34)) = some y3 from hf 3 _ rfl)
    obtain ⟨k4, e4⟩ := in_u64 Try.underlying31 (show DataW.trod enc Try.prog w base spare held n 31 ((cs.drop 28).take (Try.prog.cellsOf 31)) = some y4 from hf 4 _ rfl)
    have hl' : cs.length = 29 := hl.trans (by kernel_rfl)
    refine ⟨⟨k0, k1, k2, k3, k4⟩, ?_, hk⟩

    rw [show Try.prog.cellsOf 3 = 1 from by kernel_rfl, List.drop_zero] at e0
    rw [show Try.prog.cellsOf 31 = 1 from by kernel_rfl] at e1 e4
    rw [show Try.prog.cellsOf 27 = 9 from by kernel_rfl] at e2
    rw [show Try.prog.cellsOf 34 = 17 from by kernel_rfl] at e3
    have d1 : cs = cs.take 1 ++ ((cs.drop 1).take 1 ++ ((cs.drop 2).take 9 ++ ((cs.drop 11).take 17 ++ (cs.drop 28).take 1))) := by
      have sp : ∀ i n, cs.drop i = (cs.drop i).take n ++ cs.drop (i + n) := fun i n => by
        rw [← List.drop_drop]; exact (List.take_append_drop _ _).symm
      have s4 : (cs.drop 28).take 1 = cs.drop 28 := List.take_of_length_le (by simp; omega)
      rw [s4, ← sp 11 17, ← sp 2 9, ← sp 1 1, List.take_append_drop]
    rw [d1, e0, e1, e2, e3, e4, Msg.arr_def]
    simp only [cat_def, cel_def]
    simp
end
instance : Inhabited Key := ⟨Key.zero⟩
instance : Inhabited Vl := ⟨Vl.zero⟩
instance : Inhabited Ent := ⟨Ent.zero⟩
instance : Inhabited Msg := ⟨Msg.zero⟩
/-- a slice of structs that is handed in, as the law's frame has it -/
theorem in_structs {α : Type} [Inhabited α] (D : DT α) (Q : α → Prop) {H : Type} {enc : TypeId × Value → H} {w : World} {base : Nat} {spare : Nat → Bool} {held : Bool} {t : TypeId} {v : Value} {d : DataW H} {ps : List MemPlace} (ht : Try.prog.underlying t = some (.slice D.t)) (hc : Try.prog.cellsOf D.t = D.n)
    (each : ∀ {fuel : Nat} {cs : List Value} {x : DataW H × List MemPlace}, DataW.trod enc Try.prog w base spare held fuel D.t cs = some x → ∃ a : α, cs = (D.arr a).toList ∧ Q a) (h : DataW.Trod enc Try.prog w base spare held t v d ps) (hv : ∃ A len cap, v = .slice A len cap) :
    ∃ xs, Sl D.arr D.n w v xs ∧ ∀ a ∈ xs, Q a := by
  obtain ⟨fuel, hf⟩ := h
  obtain ⟨u, xs, h1, h2, h3⟩ := in_slice D Q ht hc each hf
  obtain ⟨A, len, cap, rfl⟩ := hv
  simp only [Value.cells, List.cons.injEq, and_true] at h1
  subst h1
  exact ⟨xs, h2, h3⟩
end Go.Proofs.Ytigbkhjcboecjaa
