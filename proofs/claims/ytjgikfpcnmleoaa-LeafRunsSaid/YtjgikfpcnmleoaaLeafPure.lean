/-
  LeafPure: leaves as sorted lists of entries: what is found, what a message makes of them. Plain law.
-/
import Derived.Test.YtjgikfpcnmleoaaMsg
namespace Go.Proofs.Ytjgikfpcnmleoaa
open Go Go.RowKit
set_option linter.unusedVariables false
set_option linter.unusedSimpArgs false

def Ent.size (e : Ent) : Int := 2 + e.key.n + e.val.n
def eSum (l : List Ent) : Int := (l.map Ent.size).sum
def lfAt (k : Key) (l : List Ent) : Nat := l.countP fun e => decide (e.key.rank < k.rank)
def Srt (l : List Ent) : Prop := l.Pairwise fun a b => a.key.rank < b.key.rank
def EOk (l : List Ent) : Prop := ∀ e ∈ l, e.key.ok = true ∧ e.val.ok = true
structure Lf (l : List Ent) : Prop where
  ok : EOk l
  srt : Srt l
/-- a key's value -/
def lfGet (k : Key) (l : List Ent) : Option Vl := (l.find? fun e => decide (e.key = k)).map (·.val)
/-- what a message makes of a key's value -/
def ap (m : Msg) (o : Option Vl) : Option Vl := if m.kind = 1 then some m.val else if m.kind = 2 then none else match o with
  | some v => some (vplus v m.add)
  | none => some (fromN m.add)
def opA (o : Option Vl) : Vl × Bool := match o with
  | some v => (v, true)
  | none => (Vl.zero, false)
theorem applyM_ap (m : Msg) (o : Option Vl) : applyM (opA o).1 (opA o).2 m = opA (ap m o) := by
  unfold applyM ap
  by_cases h1 : m.kind = 1
  · rw [if_pos h1, if_pos h1]; rfl
  · rw [if_neg h1, if_neg h1]
    by_cases h2 : m.kind = 2
    · rw [if_pos h2, if_pos h2]; rfl
    · rw [if_neg h2, if_neg h2]
      cases o <;> rfl
def newE (k : Key) (o : Option Vl) : List Ent := match o with
  | some v => [⟨k, v⟩]
  | none => []
def lfSet (l : List Ent) (k : Key) (o : Option Vl) : List Ent := l.filter (fun e => decide (e.key.rank < k.rank)) ++ (newE k o ++ l.filter (fun e => decide (k.rank < e.key.rank)))
/-- the leaf behind a message -/
def lfPut (l : List Ent) (m : Msg) : List Ent := lfSet l m.key (ap m (lfGet m.key l))
def lfAll (l : List Ent) (ms : List Msg) : List Ent := ms.foldl lfPut l

theorem lfAt_le (k : Key) (l : List Ent) : lfAt k l ≤ l.length := List.countP_le_length
theorem lfAt_cons (k : Key) (e : Ent) (l : List Ent) : lfAt k (e :: l) = lfAt k l + if e.key.rank < k.rank then 1 else 0 := by
  unfold lfAt
  rw [List.countP_cons]
  simp
theorem Srt.tail {e : Ent} {l : List Ent} (h : Srt (e :: l)) : Srt l := (List.pairwise_cons.1 h).2
theorem Srt.head {e : Ent} {l : List Ent} (h : Srt (e :: l)) : ∀ b ∈ l, e.key.rank < b.key.rank := (List.pairwise_cons.1 h).1
theorem lfAt_zero {k : Key} {l : List Ent} (h : ∀ b ∈ l, k.rank ≤ b.key.rank) : lfAt k l = 0 := by
  unfold lfAt
  rw [List.countP_eq_zero]
  intro b hb
  have := h b hb
  simp; omega
theorem lfAt_iff {k : Key} {l : List Ent} (h : Srt l) : ∀ i (hi : i < l.length), (i < lfAt k l ↔ l[i].key.rank < k.rank) := by
  induction l with
  | nil => intro i hi; cases hi
  | cons e l ih =>
    intro i hi
    rw [lfAt_cons]
    by_cases c : e.key.rank < k.rank
    · rw [if_pos c]
      cases i with
      | zero => simp [c]
      | succ i => simpa using ih h.tail i (by simpa using hi)
    · rw [if_neg c]
      have hz : lfAt k l = 0 := lfAt_zero fun b hb => by have := h.head b hb; omega
      rw [hz]
      cases i with
      | zero => simp; omega
      | succ i =>
        have hi' : i < l.length := by simpa using hi
        have := h.head l[i] (List.getElem_mem hi')
        simp; omega
theorem Srt.lt {l : List Ent} (h : Srt l) {i j : Nat} (hi : i < l.length) (hj : j < l.length) (hij : i < j) : l[i].key.rank < l[j].key.rank := List.pairwise_iff_getElem.1 h i j hi hj hij
theorem Srt.inj {l : List Ent} (h : Srt l) {a b : Ent} (ha : a ∈ l) (hb : b ∈ l) (he : a.key.rank = b.key.rank) : a = b := by
  obtain ⟨i, hi, rfl⟩ := List.mem_iff_getElem.1 ha
  obtain ⟨j, hj, rfl⟩ := List.mem_iff_getElem.1 hb
  rcases Nat.lt_trichotomy i j with c | c | c
  · have := h.lt hi hj c; omega
  · subst c; rfl
  · have := h.lt hj hi c; omega
theorem lfGet_iff {l : List Ent} (h : Srt l) (k : Key) (v : Vl) : lfGet k l = some v ↔ (⟨k, v⟩ : Ent) ∈ l := by
  unfold lfGet
  constructor
  · intro hf
    rw [Option.map_eq_some_iff] at hf
    obtain ⟨e, h1, h2⟩ := hf
    have h3 := List.mem_of_find?_eq_some h1
    have h4 := List.find?_some h1
    rw [decide_eq_true_eq] at h4
    subst h4; subst h2
    exact h3
  · intro hm
    cases hf : l.find? (fun e => decide (e.key = k)) with
    | none =>
      rw [List.find?_eq_none] at hf
      have := hf _ hm
      simp at this
    | some e =>
      have h3 := List.mem_of_find?_eq_some hf
      have h4 := List.find?_some hf
      rw [decide_eq_true_eq] at h4
      have := h.inj h3 hm (by rw [h4])
      rw [this]; rfl
theorem srt_ext : ∀ {l1 l2 : List Ent}, Srt l1 → Srt l2 → (∀ e, e ∈ l1 ↔ e ∈ l2) → l1 = l2
  | [], l2, _, _, h => by
    cases l2 with
    | nil => rfl
    | cons b l => exact absurd ((h b).2 (by simp)) (by simp)
  | a :: l1, [], _, _, h => absurd ((h a).1 (by simp)) (by simp)
  | a :: l1, b :: l2, h1, h2, h => by
    have hab : a = b := by
      have m1 := (h a).1 (by simp)
      have m2 := (h b).2 (by simp)
      rcases List.mem_cons.1 m1 with m1 | m1
      · exact m1
      · rcases List.mem_cons.1 m2 with m2 | m2
        · exact m2.symm
        · have := h2.head a m1
          have := h1.head b m2
          omega
    subst hab
    rw [srt_ext h1.tail h2.tail (fun e => ?_)]
    constructor
    · intro he
      rcases List.mem_cons.1 ((h e).1 (List.mem_cons_of_mem _ he)) with c | c
      · subst c; have := h1.head e he; omega
      · exact c
    · intro he
      rcases List.mem_cons.1 ((h e).2 (List.mem_cons_of_mem _ he)) with c | c
      · subst c; have := h2.head e he; omega
      · exact c
theorem lf_ext {l1 l2 : List Ent} (h1 : Lf l1) (h2 : Lf l2) (h : ∀ k, k.ok = true → lfGet k l1 = lfGet k l2) : l1 = l2 := by
  refine srt_ext h1.srt h2.srt fun e => ?_
  have a := lfGet_iff h1.srt e.key e.val
  have b := lfGet_iff h2.srt e.key e.val
  constructor
  · intro he
    exact b.1 ((h _ (h1.ok e he).1) ▸ a.2 he)
  · intro he
    exact a.1 ((h _ (h2.ok e he).1).symm ▸ b.2 he)
/-! ### a key's entry by its place -/
theorem get_hit {l : List Ent} (h : Srt l) {k : Key} {i : Nat} (hi : i < l.length) (he : l[i].key = k) : lfGet k l = some l[i].val := by
  rw [lfGet_iff h]
  subst he
  exact List.getElem_mem hi
theorem at_hit {l : List Ent} (h : Srt l) {k : Key} {i : Nat} (hi : i < l.length) (he : l[i].key.rank = k.rank) : lfAt k l = i := by
  have h1 := (lfAt_iff (k := k) h i hi)
  have h3 := lfAt_le k l
  rcases Nat.lt_trichotomy (lfAt k l) i with c | c | c
  · have h4 := (lfAt_iff (k := k) h (lfAt k l) (by omega))
    have := h.lt (by omega) hi c
    omega
  · exact c
  · omega
theorem get_no {l : List Ent} (h : Srt l) {k : Key} (hn : ∀ (hi : lfAt k l < l.length), l[lfAt k l].key ≠ k) : lfGet k l = none := by
  cases hg : lfGet k l with
  | none => rfl
  | some v =>
    rw [lfGet_iff h] at hg
    obtain ⟨i, hi, he⟩ := List.mem_iff_getElem.1 hg
    have := at_hit h (k := k) hi (by rw [he])
    subst this
    exact absurd (by rw [he]) (hn hi)
theorem get_none {l : List Ent} {k : Key} (hn : ∀ i (hi : i < l.length), l[i].key ≠ k) : lfGet k l = none := by
  unfold lfGet
  rw [List.find?_eq_none.2]
  · rfl
  · intro e he
    obtain ⟨i, hi, rfl⟩ := List.mem_iff_getElem.1 he
    simpa using hn i hi
theorem flt_lo {k : Key} {l : List Ent} (h : Srt l) : l.filter (fun e => decide (e.key.rank < k.rank)) = l.take (lfAt k l) := by
  induction l with
  | nil => rfl
  | cons e l ih =>
    rw [lfAt_cons]
    by_cases c : e.key.rank < k.rank
    · rw [if_pos c, List.filter_cons_of_pos (by simpa using c), List.take_succ_cons, ih h.tail]
    · rw [if_neg c, List.filter_cons_of_neg (by simpa using c)]
      have hz : lfAt k l = 0 := lfAt_zero fun b hb => by have := h.head b hb; omega
      rw [ih h.tail, hz]
      rfl
theorem flt_all {k : Key} {l : List Ent} (h : ∀ b ∈ l, k.rank < b.key.rank) : l.filter (fun e => decide (k.rank < e.key.rank)) = l := by
  rw [List.filter_eq_self]
  intro b hb
  simpa using h b hb
theorem flt_hi {k : Key} {l : List Ent} (h : Srt l) : l.filter (fun e => decide (k.rank < e.key.rank)) = l.drop (lfAt k l + if (∃ hi : lfAt k l < l.length, l[lfAt k l].key.rank = k.rank) then 1 else 0) := by
  induction l with
  | nil => simp
  | cons e l ih =>
    by_cases c : e.key.rank < k.rank
    · have e1 : lfAt k (e :: l) = lfAt k l + 1 := by rw [lfAt_cons, if_pos c]
      have e2 : (∃ hi : lfAt k (e :: l) < (e :: l).length, (e :: l)[lfAt k (e :: l)].key.rank = k.rank) ↔ (∃ hi : lfAt k l < l.length, l[lfAt k l].key.rank = k.rank) := by
        simp only [e1]
        constructor
        · rintro ⟨h1, h2⟩; exact ⟨by simpa using h1, by simpa using h2⟩
        · rintro ⟨h1, h2⟩; exact ⟨by simpa using h1, by simpa using h2⟩
      have ih' := ih h.tail
      rw [List.filter_cons_of_neg (by simp; omega), ih']
      by_cases g : ∃ hi : lfAt k l < l.length, l[lfAt k l].key.rank = k.rank
      · rw [if_pos g, if_pos (e2.2 g), e1, show lfAt k l + 1 + 1 = (lfAt k l + 1) + 1 from rfl, List.drop_succ_cons]
      · rw [if_neg g, if_neg (fun x => g (e2.1 x)), e1, Nat.add_zero, Nat.add_zero, List.drop_succ_cons]
    · have hz : lfAt k l = 0 := lfAt_zero fun b hb => by have := h.head b hb; omega
      have e1 : lfAt k (e :: l) = 0 := by rw [lfAt_cons, if_neg c, hz]
      rw [e1]
      by_cases d : e.key.rank = k.rank
      · rw [if_pos ⟨by simp [e1], by simpa [e1] using d⟩, List.filter_cons_of_neg (by simp; omega), flt_all (fun b hb => by have := h.head b hb; omega)]
        rfl
      · rw [if_neg (fun ⟨_, h2⟩ => d (by simpa [e1] using h2)), flt_all (fun b hb => by
          rcases List.mem_cons.1 hb with rfl | hb
          · omega
          · have := h.head b hb; omega)]
        rfl
theorem set_hit {l : List Ent} (h : Srt l) {k : Key} (o : Option Vl) (hi : lfAt k l < l.length) (he : l[lfAt k l].key = k) : lfSet l k o = l.take (lfAt k l) ++ (newE k o ++ l.drop (lfAt k l + 1)) := by
  unfold lfSet
  rw [flt_lo h, flt_hi h, if_pos ⟨hi, by rw [he]⟩]
theorem set_no {l : List Ent} (h : Lf l) {k : Key} (hk : k.ok = true) (o : Option Vl) (hn : ∀ (hi : lfAt k l < l.length), l[lfAt k l].key ≠ k) : lfSet l k o = l.take (lfAt k l) ++ (newE k o ++ l.drop (lfAt k l)) := by
  unfold lfSet
  rw [flt_lo h.srt, flt_hi h.srt, if_neg]
  · rfl
  · rintro ⟨hi, h2⟩
    exact hn hi ((rank_inj (h.ok _ (List.getElem_mem hi)).1 hk).1 h2)
/-! ### of a leaf with a key set -/
theorem mem_set {l : List Ent} {k : Key} {o : Option Vl} {e : Ent} : e ∈ lfSet l k o ↔ (e ∈ l ∧ e.key.rank ≠ k.rank) ∨ (e.key = k ∧ o = some e.val) := by
  unfold lfSet
  simp only [List.mem_append, List.mem_filter, decide_eq_true_eq]
  have hn : e ∈ newE k o ↔ e.key = k ∧ o = some e.val := by
    unfold newE
    cases o with
    | none => simp
    | some v =>
      simp only [List.mem_singleton, Option.some.injEq]
      constructor
      · rintro rfl; exact ⟨rfl, rfl⟩
      · rintro ⟨h1, h2⟩; cases e; simp_all
  rw [hn]
  constructor
  · rintro (⟨h1, h2⟩ | h1 | ⟨h1, h2⟩)
    · exact .inl ⟨h1, by omega⟩
    · exact .inr h1
    · exact .inl ⟨h1, by omega⟩
  · rintro (⟨h1, h2⟩ | h1)
    · rcases Nat.lt_or_gt_of_ne h2 with c | c
      · exact .inl ⟨h1, c⟩
      · exact .inr (.inr ⟨h1, c⟩)
    · exact .inr (.inl h1)
theorem srt_set {l : List Ent} (h : Srt l) (k : Key) (o : Option Vl) : Srt (lfSet l k o) := by
  unfold Srt lfSet
  have hn : ∀ e ∈ newE k o, e.key = k := fun e he => by
    unfold newE at he
    cases o with
    | none => cases he
    | some v => simp only [List.mem_singleton] at he; subst he; rfl
  rw [List.pairwise_append, List.pairwise_append]
  refine ⟨h.sublist List.filter_sublist, ⟨?_, h.sublist List.filter_sublist, fun a ha b hb => ?_⟩, fun a ha b hb => ?_⟩
  · unfold newE
    cases o with
    | none => exact List.Pairwise.nil
    | some v => exact List.pairwise_singleton ..
  · rw [hn a ha]
    simpa using (List.mem_filter.1 hb).2
  · have h1 : a.key.rank < k.rank := by simpa using (List.mem_filter.1 ha).2
    rcases List.mem_append.1 hb with hb | hb
    · rw [hn b hb]; exact h1
    · have h2 : k.rank < b.key.rank := by simpa using (List.mem_filter.1 hb).2
      omega
def OOk (o : Option Vl) : Prop := ∀ v, o = some v → v.ok = true
theorem lf_set {l : List Ent} (h : Lf l) {k : Key} (hk : k.ok = true) {o : Option Vl} (ho : OOk o) : Lf (lfSet l k o) := by
  refine ⟨fun e he => ?_, srt_set h.srt k o⟩
  rcases mem_set.1 he with ⟨h1, _⟩ | ⟨h1, h2⟩
  · exact h.ok e h1
  · exact ⟨by rw [h1]; exact hk, ho _ h2⟩
theorem get_set {l : List Ent} (h : Lf l) {k : Key} (hk : k.ok = true) (o : Option Vl) {x : Key} (hx : x.ok = true) : lfGet x (lfSet l k o) = if x = k then o else lfGet x l := by
  apply Option.ext
  intro v
  rw [lfGet_iff (srt_set h.srt k o), mem_set]
  by_cases c : x = k
  · rw [if_pos c]; subst c
    simp
  · rw [if_neg c, lfGet_iff h.srt]
    have : x.rank ≠ k.rank := fun e => c ((rank_inj hx hk).1 e)
    simp [c, this]
theorem get_ok {l : List Ent} (h : Lf l) (k : Key) : OOk (lfGet k l) := fun v hv => (h.ok _ ((lfGet_iff h.srt k v).1 hv)).2
theorem vplus_ok (v : Vl) (n : BitVec 64) : (vplus v n).ok = true := fromN_ok _
theorem ap_ok {m : Msg} (hm : m.ok = true) {o : Option Vl} (ho : OOk o) : OOk (ap m o) := by
  obtain ⟨h1, h2, h3, h4, _⟩ := Msg.spec hm
  unfold ap
  intro v hv
  split at hv
  · injection hv with hv; subst hv; exact h4
  · split at hv
    · cases hv
    · split at hv
      · injection hv with hv; subst hv; exact vplus_ok _ _
      · injection hv with hv; subst hv; exact fromN_ok _
theorem lf_put {l : List Ent} (h : Lf l) {m : Msg} (hm : m.ok = true) : Lf (lfPut l m) := lf_set h (Msg.spec hm).2.2.1 (ap_ok hm (get_ok h _))
theorem get_put {l : List Ent} (h : Lf l) {m : Msg} (hm : m.ok = true) {x : Key} (hx : x.ok = true) : lfGet x (lfPut l m) = if x = m.key then ap m (lfGet m.key l) else lfGet x l := get_set h (Msg.spec hm).2.2.1 _ hx
theorem lf_all {ms : List Msg} : ∀ {l : List Ent}, Lf l → (∀ m ∈ ms, m.ok = true) → Lf (lfAll l ms) := by
  induction ms with
  | nil => intro l h _; exact h
  | cons m ms ih => intro l h hm; exact ih (lf_put h (hm m (by simp))) (fun x hx => hm x (List.mem_cons_of_mem _ hx))
theorem lf_nil : Lf [] := ⟨(fun e h => by cases h), List.Pairwise.nil⟩
theorem set_len {l : List Ent} (k : Key) (o : Option Vl) : (lfSet l k o).length ≤ l.length + 1 := by
  unfold lfSet
  have h1 : (newE k o).length ≤ 1 := by unfold newE; cases o <;> simp
  have h2 : (l.filter (fun e => decide (e.key.rank < k.rank))).length + (l.filter (fun e => decide (k.rank < e.key.rank))).length ≤ l.length := by
    induction l with
    | nil => simp
    | cons e l ih =>
      simp only [List.filter_cons]
      split <;> split <;> simp_all <;> omega
  simp only [List.length_append]
  omega
theorem put_len (l : List Ent) (m : Msg) : (lfPut l m).length ≤ l.length + 1 := set_len _ _
theorem all_len : ∀ (ms : List Msg) (l : List Ent), (lfAll l ms).length ≤ l.length + ms.length
  | [], l => by simp [lfAll]
  | m :: ms, l => by
    have h1 := all_len ms (lfPut l m)
    have h2 := put_len l m
    simp only [lfAll, List.foldl_cons, List.length_cons] at h1 ⊢
    omega
end Go.Proofs.Ytjgikfpcnmleoaa
