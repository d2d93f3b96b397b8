/-
  Own: slices that a call has made itself, as lists: append onto them, a store into them, what they read as. Of no one program.
-/
import Derived.Test.YtigbkhjcboecjaaBase
import Derived.Maps.AppendAt
import Derived.Lib.AppendZeros
import Derived.Lib.AppendZerosOnto
namespace Go.Proofs.Ytigbkhjcboecjaa
open Go Go.RowKit
set_option linter.unusedVariables false
set_option linter.unusedSimpArgs false

/-- each element is n cells -/
structure EncOk {α : Type} (enc : α → Array Value) (n : Nat) : Prop where
  size : ∀ x, (enc x).size = n
  one : ∀ x, oneCells (enc x) = true
  pos : 0 < n
/-- t is the type of slices of e, whose elements are n cells and so many bytes -/
structure SlT (P : Program) (t e : TypeId) (n bytes : Nat) : Prop where
  ht : P.underlying t = some (.slice e)
  hi : ∃ i z, P.info? e = some i ∧ i.zero = some z ∧ i.size = n ∧ i.bytes = bytes ∧ z.cells.size = n
theorem SlT.mk' {P : Program} {t e : TypeId} {z : Value} {n bytes : Nat} (ht : P.underlying t = some (.slice e)) (hi : (P.info? e).map (fun i => (i.zero, i.size, i.bytes)) = some (some z, n, bytes)) (hz : z.cells.size = n) : SlT P t e n bytes := by
  obtain ⟨i, h1, h2, h3, h4⟩ := info_parts hi
  exact ⟨ht, i, z, h1, h2, h3, h4, hz⟩

def flat {α : Type} (enc : α → Array Value) (xs : List α) : List Value := xs.flatMap fun x => (enc x).toList
theorem flat_nil {α : Type} (enc : α → Array Value) : flat enc [] = [] := rfl
theorem flat_append {α : Type} (enc : α → Array Value) (a b : List α) : flat enc (a ++ b) = flat enc a ++ flat enc b := by simp [flat]
theorem flat_length {α : Type} {enc : α → Array Value} {n : Nat} (h : EncOk enc n) (xs : List α) : (flat enc xs).length = xs.length * n := by
  induction xs with
  | nil => simp [flat]
  | cons x xs ih =>
    have : flat enc (x :: xs) = (enc x).toList ++ flat enc xs := rfl
    rw [this, List.length_append, ih, List.length_cons, Nat.succ_mul]
    have := h.size x
    simp; omega
theorem flat_get {α : Type} {enc : α → Array Value} {n : Nat} (h : EncOk enc n) (xs : List α) (i j : Nat) (hi : i < xs.length) (hj : j < n) : (flat enc xs)[i * n + j]? = (enc xs[i])[j]? := by
  induction xs generalizing i with
  | nil => simp at hi
  | cons x xs ih =>
    have e : flat enc (x :: xs) = (enc x).toList ++ flat enc xs := rfl
    have hs := h.size x
    rw [e]
    cases i with
    | zero => rw [List.getElem?_append_left (by simp; omega)]; simp
    | succ i =>
      rw [List.getElem?_append_right (by simp; rw [Nat.succ_mul]; omega)]
      have : (i + 1) * n + j - (enc x).toList.length = i * n + j := by simp; rw [Nat.succ_mul]; omega
      rw [this]
      exact ih i (by simpa using hi)
theorem flat_one {α : Type} {enc : α → Array Value} {n : Nat} (h : EncOk enc n) (xs : List α) : ∀ u ∈ flat enc xs, u.oneCell' = true := by
  intro u hu
  simp only [flat, List.mem_flatMap] at hu
  obtain ⟨x, _, hx⟩ := hu
  have h1 := h.one x
  unfold oneCells at h1
  rw [← Array.all_toList] at h1
  exact List.all_eq_true.1 h1 u hx
/-- the cells that a slice's elements are -/
theorem Sl.news {α : Type} {enc : α → Array Value} {n : Nat} {w : World} {b off : Nat} {xs : List α} (hk : EncOk enc n) (h : ∀ i (h : i < xs.length), row? w b (off + i * n) n = some (enc xs[i])) :
    ∀ j u, (flat enc xs)[j]? = some u → w.cell? ((⟨b, off, none⟩ : Addr).add j) = some u := by
  intro j u hu
  have hn := hk.pos
  have hj : j < xs.length * n := by
    rw [← flat_length hk]
    exact (List.getElem?_eq_some_iff.1 hu).1
  have hi : j / n < xs.length := (Nat.div_lt_iff_lt_mul hn).2 hj
  have hr := h (j / n) hi
  have hm : j % n < n := Nat.mod_lt _ hn
  have hd : j / n * n + j % n = j := by rw [Nat.mul_comm]; exact Nat.div_add_mod j n
  have hu2 : (enc xs[j / n])[j % n]? = some u := by
    rw [← flat_get hk xs (j / n) (j % n) hi hm, hd]; exact hu
  have hc := row_cell hr hm hu2
  have hadd : (⟨b, off, none⟩ : Addr).add j = ⟨b, off + j, none⟩ := by unfold Addr.add; split <;> simp_all
  rw [hadd]
  rwa [Nat.add_assoc, hd] at hc

/-- a new row of one element -/
theorem Sl.one {α : Type} {enc : α → Array Value} {n : Nat} (hk : EncOk enc n) (w : World) (e : TypeId) (fr : Nat × Nat) (x : α) : Sl enc n (w.alloc (.cells (enc x) e fr)) (.slice (some ⟨w.heap.size, 0, none⟩) 1 1) [x] := by
  refine ⟨some ⟨w.heap.size, 0, none⟩, 1, rfl, Nat.le_refl _, by unfold maxLen; omega, fun _ => ⟨w.heap.size, 0, rfl, by simp, fun i hi => ?_⟩⟩
  obtain rfl : i = 0 := by simp at hi; exact hi
  rw [row_alloc_at _ _ _ _ _ _ _ rfl, Nat.zero_mul, Nat.add_zero]
  exact rowOf_full _ _ (hk.size x)
/-- a slice of the call's own, from block base on, that reads as xs -/
def Own {α : Type} (base : Nat) (e : TypeId) (enc : α → Array Value) (n : Nat) (w : World) (v : Value) (xs : List α) : Prop :=
  w.ownsRow base e n v xs.length (flat enc xs)
section
variable {α : Type} {base : Nat} {e : TypeId} {enc : α → Array Value} {n : Nat} {w w' : World} {v : Value} {xs ys : List α}
theorem Own.nil (base : Nat) (e : TypeId) (enc : α → Array Value) (n : Nat) (w : World) : Own base e enc n w (.slice none 0 0) [] := ⟨by simp [flat], .inl ⟨rfl, rfl⟩⟩
theorem Own.empty (base : Nat) (e : TypeId) (enc : α → Array Value) (n : Nat) (w : World) (hb : base ≤ w.heap.size) : Own base e enc n (w.alloc (.cells #[] e)) (.slice (some ⟨w.heap.size, 0, none⟩) 0 0) [] :=
  World.ownsRow_made w #[] 0 hb (by unfold maxLen; omega) (by simp)
theorem Own.made (base : Nat) (e : TypeId) (enc : α → Array Value) (n : Nat) (w : World) (cur : Array Value) (c : Nat) (hb : base ≤ w.heap.size) (hc : c ≤ maxLen) (hs : cur.size = c * n) : Own base e enc n (w.alloc (.cells cur e)) (.slice (some ⟨w.heap.size, 0, none⟩) 0 c) [] :=
  World.ownsRow_made w cur c hb hc hs
theorem Own.sl (h : Own base e enc n w v xs) (hk : EncOk enc n) : Sl enc n w v xs := by
  obtain ⟨hl, h⟩ := h
  rcases h with ⟨rfl, h0⟩ | ⟨g, cap, cur, rfl, hb, hg, hle, hm, hs, ht⟩
  · obtain rfl : xs = [] := List.eq_nil_of_length_eq_zero h0
    exact Sl.nil _ _ _
  · refine ⟨some ⟨g, 0, none⟩, cap, rfl, hle, hm, fun h0 => ⟨g, 0, rfl, (Array.getElem?_eq_some_iff.1 hg).1, fun i hi => ?_⟩⟩
    rw [row_block hg]
    have hin : i * n + n ≤ xs.length * n := by rw [← Nat.succ_mul]; exact Nat.mul_le_mul_right n hi
    have hcn : xs.length * n ≤ cap * n := Nat.mul_le_mul_right n hle
    unfold rowOf
    rw [if_pos (by omega)]
    congr 1
    apply Array.ext_getElem?
    intro k
    rw [Array.getElem?_extract]
    by_cases hk' : k < n
    · rw [if_pos (by omega), ← flat_get hk xs i k hi hk', ← ht, List.getElem?_take, if_pos (by omega)]
      rw [Array.getElem?_toList]; congr 1; omega
    · have := hk.size xs[i]
      rw [if_neg (by omega), Array.getElem?_eq_none (by omega)]
theorem Own.blocks (h : Own base e enc n w v xs) : ∀ k, v.ownBlock = some k → base ≤ k ∧ k < w.heap.size := World.ownsRow.lt h
theorem Own.kept {row : Option Nat} (h : Own base e enc n w v xs) (hg : w.grownBy w' row) (hne : v.ownBlock = none ∨ v.ownBlock ≠ row) : Own base e enc n w' v xs := World.ownsRow.kept h hg hne
theorem Own.ext (h : Own base e enc n w v xs) (he : Ext w w') : Own base e enc n w' v xs :=
  h.kept (row := none) ⟨he.os, he.tape, he.output, he.size, fun k hk _ => he.block k hk⟩ (by cases hv : v.ownBlock <;> simp)
theorem Own.alloc (h : Own base e enc n w v xs) (o : Obj) : Own base e enc n (w.alloc o) v xs := World.ownsRow.alloc h o
theorem Own.drew (h : Own base e enc n w v xs) : Own base e enc n w.drew v xs := h
theorem Own.drewN (h : Own base e enc n w v xs) (k : Nat) : Own base e enc n (w.drewN k) v xs := h
theorem Own.le {base' : Nat} (h : Own base e enc n w v xs) (hb : base' ≤ base) : Own base' e enc n w v xs := by
  obtain ⟨h1, h2⟩ := h
  refine ⟨h1, ?_⟩
  rcases h2 with h2 | ⟨g, cap, cur, hv, hg, r⟩
  · exact .inl h2
  · exact .inr ⟨g, cap, cur, hv, Nat.le_trans hb hg, r⟩
theorem Own.form (h : Own base e enc n w v xs) (h0 : 0 < xs.length) : ∃ g cap cur, v = .slice (some ⟨g, 0, none⟩) xs.length cap ∧ base ≤ g ∧ w.heap[g]? = some (.cells cur e (0, 0)) ∧ xs.length ≤ cap ∧ cap ≤ maxLen ∧ cur.size = cap * n ∧ cur.toList.take (xs.length * n) = flat enc xs := by
  rcases h.2 with ⟨_, h1⟩ | h2
  · omega
  · exact h2
theorem Own.value (h : Own base e enc n w v xs) : ∃ A cap, v = .slice A xs.length cap ∧ xs.length ≤ cap ∧ cap ≤ maxLen := by
  rcases h.2 with ⟨rfl, h1⟩ | ⟨g, cap, cur, rfl, _, _, h3, h4, _⟩
  · exact ⟨none, 0, by rw [h1], by omega, by unfold maxLen; omega⟩
  · exact ⟨_, _, rfl, h3, h4⟩
theorem Ext.grown {a : World} {row : Option Nat} (h : Ext a w) (hg : w.grownBy w' row) (hr : ∀ k, row = some k → a.heap.size ≤ k) : Ext a w' := Below.grown h hg h.size hr
theorem Ext.append {a : World} (h : Ext a w) (hg : w.grownBy w' v.ownBlock) (ho : Own base e enc n w v xs) (hb : a.heap.size ≤ base) : Ext a w' :=
  h.grown hg fun k hk => Nat.le_trans hb (ho.blocks k hk).1
end

section
variable {α : Type} {base : Nat} {t e : TypeId} {enc : α → Array Value} {n bytes : Nat} {v y : Value} {xs ys : List α} {P : Program}
theorem run_append_nil_src (w : World) (ty : TypeId) (hT : SlT P t e n bytes) (hown : Own base e enc n w v xs) (c : Nat) : (Builtin.append_ #[t, t] ty #[v, .slice none 0 c]).run P w = .ok v w := by
  obtain ⟨ht, i, z, hi, hz, hs, hb, hzs⟩ := hT
  rcases hown.2 with ⟨rfl, h0⟩ | ⟨g, cap, cur, rfl, _, _, hnc, _⟩
  · simp [Builtin.append_, run_underlying ht, sizeOf, typeInfo, hi, Builtin.lenOf, Builtin.firstCells]
  · simp [Builtin.append_, run_underlying ht, sizeOf, typeInfo, hi, Builtin.lenOf, Builtin.firstCells, hnc, storeCells]
/-- append: what is there behind it -/
theorem run_append_sl (w : World) (ty : TypeId) (hT : SlT P t e n bytes) (hk : EncOk enc n) (hown : Own base e enc n w v xs) (hsl : Sl enc n w y ys)
    (h63 : xs.length + ys.length ≤ maxLen) (hbytes : (xs.length + ys.length) * bytes ≤ 140737488355328) (hbase : base ≤ w.heap.size) :
    ∃ v' w', (Builtin.append_ #[t, t] ty #[v, y]).run P w = .ok v' w' ∧ Own base e enc n w' v' (xs ++ ys) ∧ w.grownBy w' v.ownBlock ∧ (v'.ownBlock = v.ownBlock ∨ v'.ownBlock = some w.heap.size) := by
  obtain ⟨A, c, rfl, h1, h2, hA⟩ := hsl
  have hT' := hT
  obtain ⟨ht, i, z, hi, hz, hs, hb, hzs⟩ := hT
  by_cases h0 : ys.length = 0
  · obtain rfl : ys = [] := List.eq_nil_of_length_eq_zero h0
    cases A with
    | none =>
      exact ⟨v, w, run_append_nil_src w ty hT' hown c, by simpa using hown, World.grownBy.refl w _, .inl rfl⟩
    | some ad =>
      obtain ⟨v', w', hr, h3, h4, _, h5⟩ := run_append_own_at (P := P) w base t ty e i z n bytes ht hi hz hs hb hzs hk.pos v xs.length (flat enc xs) hown ad 0 c [] (by simp) (by simp) (by simp) (by simpa using h63) (by simpa using hbytes) hbase
      exact ⟨v', w', hr, by simpa [Own] using h3, h4, h5⟩
  · obtain ⟨b, off, rfl, _, hr⟩ := hA (by omega)
    obtain ⟨v', w', hr, h3, h4, _, h5⟩ := run_append_own_at (P := P) w base t ty e i z n bytes ht hi hz hs hb hzs hk.pos v xs.length (flat enc xs) hown ⟨b, off, none⟩ ys.length c (flat enc ys) (flat_length hk ys) (Sl.news hk hr) (flat_one hk ys) h63 hbytes hbase
    exact ⟨v', w', hr, by unfold Own; rw [flat_append, List.length_append]; exact h3, h4, h5⟩
theorem wp_append_sl {w : World} {o : Oper} {a : Act} {K : Act → World → Prop} {Q : Exit → Act → World → Prop} (s x : Operand)
    (ho : o.op = .call { callee := .builtin .append, args := #[s, x], argTypes := #[t, t] }) (hT : SlT P t e n bytes) (hk : EncOk enc n) (hs : a.eval s = v) (hx : a.eval x = y) (hown : Own base e enc n w v xs) (hsl : Sl enc n w y ys)
    (h63 : xs.length + ys.length ≤ maxLen) (hbytes : (xs.length + ys.length) * bytes ≤ 140737488355328) (hbase : base ≤ w.heap.size)
    (h : ∀ v' w', Own base e enc n w' v' (xs ++ ys) → w.grownBy w' v.ownBlock → (v'.ownBlock = v.ownBlock ∨ v'.ownBlock = some w.heap.size) → K (a.put o.dst v') w') : o.wp P a w K Q := by
  obtain ⟨v', w', hr, h2, h3, h4⟩ := run_append_sl (P := P) w o.type hT hk hown hsl h63 hbytes hbase
  unfold Oper.wp execOp
  simp only [ho, resolve, invoke, builtin, Sem.run_bind, Sem.run_pure, Result.andThen_ok, List.map_toArray, List.map_cons, List.map_nil, hs, hx, hr]
  exact h v' w' h2 h3 h4
theorem wpList_append_sl {w : World} {ops : Array Oper} {rest : List Oper} {o : Oper} {a : Act} {Q : Exit → Act → World → Prop} (hgd : o.guard = none) (s x : Operand)
    (ho : o.op = .call { callee := .builtin .append, args := #[s, x], argTypes := #[t, t] }) (hT : SlT P t e n bytes) (hk : EncOk enc n) (hs : a.eval s = v) (hx : a.eval x = y) (hown : Own base e enc n w v xs) (hsl : Sl enc n w y ys)
    (h63 : xs.length + ys.length ≤ maxLen) (hbytes : (xs.length + ys.length) * bytes ≤ 140737488355328) (hbase : base ≤ w.heap.size)
    (h : ∀ v' w', Own base e enc n w' v' (xs ++ ys) → w.grownBy w' v.ownBlock → (v'.ownBlock = v.ownBlock ∨ v'.ownBlock = some w.heap.size) → wpList P ops Q rest (a.put o.dst v') w') : wpList P ops Q (o :: rest) a w :=
  wpList_plain hgd fun _ hK => wp_append_sl s x ho hT hk hs hx hown hsl h63 hbytes hbase fun v' w' h2 h3 h4 => hK _ _ (h v' w' h2 h3 h4)
/-- at a step of a region that draws its order -/
theorem step_append_sl {w : World} {ops : Array Oper} {o : Oper} {a : Act} {K : Act → World → Prop} {Q : Exit → Act → World → Prop} {E : Prop} (hgd : o.guard = none) (s x : Operand)
    (ho : o.op = .call { callee := .builtin .append, args := #[s, x], argTypes := #[t, t] }) (hT : SlT P t e n bytes) (hk : EncOk enc n) (hs : a.eval s = v) (hx : a.eval x = y) (hown : Own base e enc n w v xs) (hsl : Sl enc n w y ys)
    (h63 : xs.length + ys.length ≤ maxLen) (hbytes : (xs.length + ys.length) * bytes ≤ 140737488355328) (hbase : base ≤ w.heap.size)
    (h : ∀ v' w', Own base e enc n w' v' (xs ++ ys) → w.grownBy w' v.ownBlock → (v'.ownBlock = v.ownBlock ∨ v'.ownBlock = some w.heap.size) → K (a.put o.dst v') w') :
    if Region.wanted o (yielded ops a.tmps) = true then Oper.wp P o a w K Q else E := by
  have hw : Region.wanted o (yielded ops a.tmps) = true := by simp [Region.wanted, hgd]
  rw [if_pos hw]
  exact wp_append_sl s x ho hT hk hs hx hown hsl h63 hbytes hbase h
end

theorem zeroCells_flat {α : Type} {enc : α → Array Value} {n : Nat} (hk : EncOk enc n) {x0 : α} {z : Value} (hz : enc x0 = z.cells) (k : Nat) : (Builtin.zeroCells z.cells k).toList = flat enc (List.replicate k x0) := by
  have hzs : z.cells.size = n := by rw [← hz]; exact hk.size x0
  apply List.ext_getElem?
  intro j
  have hn := hk.pos
  by_cases hj : j < k * n
  · have hi : j / n < k := (Nat.div_lt_iff_lt_mul hn).2 hj
    have hm : j % n < n := Nat.mod_lt _ hn
    have hd : j / n * n + j % n = j := by rw [Nat.mul_comm]; exact Nat.div_add_mod j n
    have h1 := flat_get hk (List.replicate k x0) (j / n) (j % n) (by simpa using hi) hm
    rw [hd] at h1
    rw [h1, List.getElem_replicate, hz]
    simp [Builtin.zeroCells, hzs, hj, hm]
  · rw [List.getElem?_eq_none (by simp [Builtin.zeroCells, hzs]; omega), List.getElem?_eq_none (by rw [flat_length hk]; simp; omega)]
theorem run_append_zeros {α : Type} {base : Nat} {t tn e : TypeId} {enc : α → Array Value} {n bytes : Nat} {v : Value} {xs : List α} {x0 : α} {P : Program} (w : World) (ty : TypeId) (ht : P.underlying t = some (.slice e)) (htn : P.underlying tn = some (.int .i64)) (hi : ∃ i z, P.info? e = some i ∧ i.zero = some z ∧ i.size = n ∧ i.bytes = bytes ∧ enc x0 = z.cells)
    (hk : EncOk enc n) (hown : Own base e enc n w v xs) (k : Nat) (h63 : xs.length + k ≤ maxLen) (hbytes : (xs.length + k) * bytes ≤ 140737488355328) (hbase : base ≤ w.heap.size) :
    ∃ v' w', (Builtin.append_ #[t, tn] ty #[v, .int .i64 (k : Int)]).run P w = .ok v' w' ∧ Own base e enc n w' v' (xs ++ List.replicate k x0) ∧ w.grownBy w' v.ownBlock := by
  obtain ⟨i, z, hi, hz, hs, hb, hz0⟩ := hi
  have hzf := zeroCells_flat hk hz0
  have hzs : z.cells.size = n := by rw [← hz0]; exact hk.size x0
  have hkb : k * bytes ≤ (xs.length + k) * bytes := Nat.mul_le_mul_right _ (by omega)
  have hm63 : maxLen = 9223372036854775807 := by unfold maxLen; rfl
  have hn := hk.pos
  have hwk : IntKind.i64.wrap (k : Int) = k := by rw [IntKind.wrap_i64]; omega
  have h48i : ¬ (281474976710656 < (k : Int) * (i.bytes : Int)) := by rw [← Int.natCast_mul, hb]; omega
  have hneg : ¬ ((k : Int) < 0) := by omega
  by_cases hk0 : k = 0
  · subst hk0
    refine ⟨v, w, ?_, by simpa using hown, World.grownBy.refl w _⟩
    rcases hown.2 with ⟨rfl, h0⟩ | ⟨g, cap, cur, rfl, _, _, hnc, _⟩
    · simp [Builtin.append_, run_underlying ht, run_underlying htn, sizeOf, typeInfo, hi, asInt, asIntOf, IntKind.wrap_i64]
    · simp [Builtin.append_, run_underlying ht, run_underlying htn, sizeOf, typeInfo, hi, asInt, asIntOf, IntKind.wrap_i64, hnc, storeCells]
  · rcases hown.2 with ⟨rfl, h0⟩ | ⟨g, cap, cur, rfl, hbg, hg, hnc, hcm, hcs, htake⟩
    · obtain rfl : xs = [] := List.eq_nil_of_length_eq_zero h0
      have hr := Lib.run_append_nil_zeros (P := P) w t tn ty e i z .i64 .i64 ht htn hi hz k (by omega) (by omega) (by omega) (by rw [hb]; omega)
      refine ⟨_, _, hr, ⟨by rw [flat_length hk], .inr ⟨w.heap.size, grownCap w k 0 e, _, by simp, hbase, heap_alloc_new w.drew _, ?_, ?_, ?_, ?_⟩⟩, ⟨rfl, rfl, rfl, by simp, fun j hj _ => heap_old w.drew _ j hj⟩⟩
      · simpa using grownCap_ge w k 0 e
      · exact grownCap_le_maxLen w k 0 e (by omega)
      · have := grownCap_ge w k 0 e
        simp only [Array.size_append, size_zeroCells, hzs, ← Nat.add_mul]
        congr 1; omega
      · simp only [Array.toList_append, hzf, List.nil_append, List.length_replicate]
        rw [← flat_append, List.replicate_append_replicate]
        have h1 : k + (grownCap w k 0 e - k) = grownCap w k 0 e := by have := grownCap_ge w k 0 e; omega
        rw [h1]
        have h2 : flat enc (List.replicate (grownCap w k 0 e) x0) = flat enc (List.replicate k x0) ++ flat enc (List.replicate (grownCap w k 0 e - k) x0) := by rw [← flat_append, List.replicate_append_replicate, h1]
        rw [h2]
        have h3 : k * n = (flat enc (List.replicate k x0)).length := by rw [flat_length hk, List.length_replicate]
        rw [h3]; exact List.take_left
    · have hlf := flat_length hk xs
      by_cases hroom : xs.length + k ≤ cap
      · have hfit : xs.length * n + k * n ≤ cur.size := by rw [hcs, ← Nat.add_mul]; exact Nat.mul_le_mul_right _ hroom
        have hst := run_storeCells_at (P := P) g (xs.length * n) e (flat enc (List.replicate k x0)) 0 cur w hg (by rw [flat_length hk, List.length_replicate]; omega) (flat_one hk _)
        have hns : ¬ (k * n = 0) := Nat.mul_ne_zero hk0 (by omega)
        have hzl : (Builtin.zeroCells z.cells k).toList = flat enc (List.replicate k x0) := hzf k
        have hadd : ∀ m, (⟨g, 0, none⟩ : Addr).add m = ⟨g, m, none⟩ := by intro m; unfold Addr.add; split <;> simp_all
        have hr : (Builtin.append_ #[t, tn] ty #[.slice (some ⟨g, 0, none⟩) xs.length cap, .int .i64 (k : Int)]).run P w = .ok (.slice (some ⟨g, 0, none⟩) (xs.length + k) cap) (w.setRow g (cur.toList.take (xs.length * n + 0) ++ flat enc (List.replicate k x0) ++ cur.toList.drop (xs.length * n + 0 + (flat enc (List.replicate k x0)).length)).toArray) := by
          simp [Builtin.append_, run_underlying ht, run_underlying htn, sizeOf, typeInfo, zeroValue, hi, hz, asInt, asIntOf, hwk, hneg, h48i, hns, hroom, hs, hzl, hadd] at hst ⊢
          simp [hst]
        refine ⟨_, _, hr, ⟨by rw [flat_length hk], .inr ⟨g, cap, _, by simp, hbg, setRow_heap w g cur _ e _ hg, by simpa using hroom, hcm, ?_, ?_⟩⟩, ⟨rfl, rfl, rfl, by simp, fun j hj hne => setRow_other w g j _ (fun e => hne (by simp [Value.ownBlock, e]))⟩⟩
        · simp only [List.size_toArray, List.length_append, List.length_take, List.length_drop, Array.length_toList, flat_length hk, List.length_replicate]
          omega
        · rw [flat_append, ← htake, Nat.add_zero, List.length_append, List.length_replicate, Nat.add_mul]
          have h3 : xs.length * n + k * n = (cur.toList.take (xs.length * n) ++ flat enc (List.replicate k x0)).length := by rw [htake, List.length_append, flat_length hk, flat_length hk, List.length_replicate]
          rw [h3]
          exact List.take_left
      · have hge := grownCap_ge w (xs.length + k) cap e
        have hold : (Builtin.firstCells i.size xs.length (.slice (some ⟨g, 0, none⟩) xs.length cap)).run P w.drew = .ok (flat enc xs).toArray w.drew :=
          run_firstCells_some (P := P) w.drew i.size xs.length ⟨g, 0, none⟩ xs.length cap (flat enc xs) (by rw [hs]; exact hlf) (by simpa using World.ownsRow.cells hown (g := g) rfl)
        have hr := Lib.run_append_grow_zeros (P := P) w t tn ty e i z .i64 .i64 ht htn hi hz (some ⟨g, 0, none⟩) xs.length cap (flat enc xs) hold k (by omega) (by omega) (by omega) (by omega) (by rw [hb]; omega) (growslice_fits (by omega) (by rw [hb]; exact hbytes))
        refine ⟨_, _, hr, ⟨by rw [flat_length hk], .inr ⟨w.heap.size, grownCap w (xs.length + k) cap e, _, by simp, hbase, heap_alloc_new w.drew _, by simpa using hge, grownCap_le_maxLen w _ cap e h63, ?_, ?_⟩⟩, ⟨rfl, rfl, rfl, by simp, fun j hj _ => heap_old w.drew _ j hj⟩⟩
        · simp only [Array.size_append, List.size_toArray, size_zeroCells, hzs, hlf, ← Nat.add_mul]
          congr 1; omega
        · simp only [Array.toList_append, hzf, List.length_append, List.length_replicate]
          rw [flat_append]
          have h3 : (xs.length + k) * n = (flat enc xs ++ flat enc (List.replicate k x0)).length := by rw [List.length_append, flat_length hk, flat_length hk, List.length_replicate, Nat.add_mul]
          rw [h3]
          exact List.take_left

/-! ### a store into a slice of the call's own, whose elements are one cell -/
theorem Own.set {α : Type} {base : Nat} {e : TypeId} {enc : α → Array Value} {w : World} {v : Value} {xs : List α} (hk : EncOk enc 1) (h : Own base e enc 1 w v xs) {g cap : Nat} (hv : v = .slice (some ⟨g, 0, none⟩) xs.length cap) (i : Nat) (hi : i < xs.length) (x : α) (u : Value) (hu : enc x = #[u]) :
    Own base e enc 1 (w.setCell ⟨g, i, none⟩ u) v (xs.set i x) := by
  obtain ⟨g', cap', cur, hv', hb, hg, h1, h2, h3, h4⟩ := h.form (by omega)
  rw [hv] at hv'
  injection hv' with e1 _ e3
  injection e1 with e1
  injection e1 with e1
  subst e1 e3
  refine ⟨?_, .inr ⟨g, cap, cur.setIfInBounds i u, by rw [hv, List.length_set], hb, ?_, by rw [List.length_set]; exact h1, h2, by simpa using h3, ?_⟩⟩
  · rw [flat_length hk]
  · exact heap_setCell_same w g i cur e u hg
  · have hl := flat_length hk xs
    apply List.ext_getElem?
    intro k
    rw [List.length_set, List.getElem?_take]
    by_cases hkl : k < xs.length
    · have e1 := flat_get hk (xs.set i x) k 0 (by simpa using hkl) (by omega)
      have e2 := flat_get hk xs k 0 hkl (by omega)
      rw [Nat.mul_one, Nat.add_zero] at e1 e2
      rw [if_pos (by omega), e1, Array.getElem?_toList, Array.getElem?_setIfInBounds]
      by_cases hik : i = k
      · subst hik
        have hcs : i < cur.size := by omega
        rw [if_pos rfl, if_pos hcs]
        simp [hu]
      · rw [if_neg hik, List.getElem_set_ne hik, ← e2, ← h4, List.getElem?_take, if_pos (by omega), Array.getElem?_toList]
    · rw [if_neg (by omega), List.getElem?_eq_none (by rw [flat_length hk]; simp; omega)]
theorem Own.open1 {α : Type} {base : Nat} {e : TypeId} {enc : α → Array Value} {w : World} {v : Value} {xs : List α} (hk : EncOk enc 1) (h : Own base e enc 1 w v xs) (h0 : 0 < xs.length) :
    ∃ g cap, v = .slice (some ⟨g, 0, none⟩) xs.length cap ∧ base ≤ g ∧ g < w.heap.size ∧ xs.length ≤ cap ∧ cap ≤ maxLen ∧ ∀ i (hi : i < xs.length) u, enc xs[i] = #[u] → w.cell? ⟨g, i, none⟩ = some u ∧ w.frozen? ⟨g, i, none⟩ = false := by
  obtain ⟨g, cap, cur, hv, hb, hg, h1, h2, h3, h4⟩ := h.form h0
  refine ⟨g, cap, hv, hb, (Array.getElem?_eq_some_iff.1 hg).1, h1, h2, fun i hi u hu => ⟨?_, frozen_of_row w g i cur e hg⟩⟩
  rw [cell_of_row w g i cur e (0, 0) hg]
  have e2 := flat_get hk xs i 0 hi (by omega)
  rw [Nat.mul_one, Nat.add_zero, ← h4, List.getElem?_take, if_pos (by omega), Array.getElem?_toList] at e2
  rw [e2, hu]; rfl
end Go.Proofs.Ytigbkhjcboecjaa
