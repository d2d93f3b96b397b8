/-
  BufLaws: what the laws of layer 6 ask, in plain words: of a message more, of batches, of what is left, of parts.
-/
import Derived.Test.YtigbkhjcboecjaaBufChecks
namespace Go.Proofs.Ytigbkhjcboecjaa
open Go Go.RowKit
set_option linter.unusedVariables false
set_option linter.unusedSimpArgs false

/-! ### a message more -/
theorem get_hit_ex {l : List Msg} (h : BSrt l) {k : Key} {x : Msg} (hg : bfGet k l = some x) : ∃ hi : bfAt k l < l.length, l[bfAt k l].key = k := by
  obtain ⟨hm, hk⟩ := (bfGet_iff h k x).1 hg
  obtain ⟨i, hi, he⟩ := List.mem_iff_getElem.1 hm
  have e := bat_hit h (k := k) hi (by rw [he, hk])
  subst e
  exact ⟨hi, by rw [he, hk]⟩
theorem add_len_hit {l : List Msg} (h : BSrt l) {m x : Msg} (hg : bfGet m.key l = some x) : (bfAdd l m).length = l.length := by
  obtain ⟨hi, he⟩ := get_hit_ex h hg
  rw [add_hit h m hi he]
  simp only [List.length_append, List.length_take, List.length_drop, List.length_singleton]
  omega
theorem add_len_no {l : List Msg} (h : Bf l) {m : Msg} (hm : m.ok = true) (hg : bfGet m.key l = none) : (bfAdd l m).length = l.length + 1 := by
  have hle := bfAt_le m.key l
  rw [add_no h m (Msg.spec hm).2.2.1 (fun hi e => by rw [bget_hit h.srt hi e] at hg; cases hg)]
  simp only [List.length_append, List.length_take, List.length_drop, List.length_singleton]
  omega
/-! ### batches -/
theorem batch_facts (l : List Msg) : batchN l ≤ l.length ∧ bSum (l.take (batchN l)) ≤ 96 ∧ min 2 l.length ≤ batchN l ∧ (batchN l < l.length → 96 < bSum (l.take (batchN l + 1))) := by
  obtain ⟨h1, h2, h3, h4⟩ := batchF_le l l.length 0 (Nat.zero_le _)
  change batchN l ≤ _ at h1
  have h3' := h3 (by omega)
  change batchN l < l.length → 96 < bSum (l.take (batchN l + 1)) at h3'
  change 0 = batchN l ∨ bSum (l.take (batchN l)) ≤ 96 at h4
  refine ⟨h1, ?_, ?_, h3'⟩
  · rcases h4 with h4 | h4
    · rw [← h4]; simp [bSum]
    · exact h4
  · by_cases c : batchN l < l.length
    · have h5 := h3' c
      have h6 := bSum_le (l.take (batchN l + 1))
      rw [List.length_take] at h6
      by_cases d : 2 ≤ batchN l
      · omega
      · omega
    · omega
theorem less_take {l : List Msg} (h : BSrt l) (n : Nat) : bfLess l (l.take n) = l.drop n := by
  have hs : BSrt (l.take n) := h.sublist (List.take_sublist n l)
  have hp := List.pairwise_iff_getElem.1 h
  have e : l = l.take n ++ l.drop n := (List.take_append_drop n l).symm
  unfold bfLess
  rw [show l.filter (goneP (l.take n)) = (l.take n ++ l.drop n).filter (goneP (l.take n)) from by rw [← e], List.filter_append]
  have h1 : (l.take n).filter (goneP (l.take n)) = [] := by
    rw [List.filter_eq_nil_iff]
    intro m hm
    unfold goneP
    rw [(bfGet_iff hs m.key m).2 ⟨hm, rfl⟩]
    simp
  have h2 : (l.drop n).filter (goneP (l.take n)) = l.drop n := by
    rw [List.filter_eq_self]
    intro m hm
    unfold goneP
    cases hg : bfGet m.key (l.take n) with
    | none => rfl
    | some x =>
      obtain ⟨h3, h4⟩ := (bfGet_iff hs m.key x).1 hg
      obtain ⟨i, hi, rfl⟩ := List.mem_iff_getElem.1 h3
      obtain ⟨j, hj, rfl⟩ := List.mem_iff_getElem.1 hm
      rw [List.length_take] at hi
      rw [List.length_drop] at hj
      have := h.lt (i := i) (j := n + j) (by omega) (by omega) (by omega)
      simp only [List.getElem_take, List.getElem_drop] at h4
      rw [h4] at this; omega
  rw [h1, h2]
  rfl
/-! ### what is left -/
theorem less_bf {l : List Msg} (h : Bf l) (g : List Msg) : Bf (bfLess l g) := ⟨fun m hm => h.ok m (List.mem_filter.1 hm).1, h.srt.sublist List.filter_sublist⟩
theorem less_len (l g : List Msg) : (bfLess l g).length ≤ l.length := List.length_filter_le _ _
theorem less_get {l : List Msg} (h : Bf l) (g : List Msg) (k : Key) : bfGet k (bfLess l g) = if (bfGet k g).isSome = true then none else bfGet k l := by
  apply Option.ext
  intro m
  rw [bfGet_iff (less_bf h g).srt]
  unfold bfLess
  rw [List.mem_filter]
  by_cases c : (bfGet k g).isSome = true
  · rw [if_pos c]
    constructor
    · rintro ⟨⟨_, h2⟩, rfl⟩
      unfold goneP at h2
      rw [c] at h2; cases h2
    · intro e; cases e
  · rw [if_neg c, bfGet_iff h.srt]
    constructor
    · rintro ⟨⟨h1, _⟩, h2⟩; exact ⟨h1, h2⟩
    · rintro ⟨h1, rfl⟩
      refine ⟨⟨h1, ?_⟩, rfl⟩
      unfold goneP
      simpa using c
theorem less_nil (l : List Msg) : bfLess l [] = l := by
  unfold bfLess
  rw [List.filter_eq_self]
  intro m _; rfl
theorem less_self {l : List Msg} (h : BSrt l) : bfLess l l = [] := by
  have := less_take h l.length
  rw [List.take_length, List.drop_length] at this
  exact this
/-! ### folds -/
theorem get_ball_srt {x : Key} (hx : x.ok = true) : ∀ {ms b : List Msg}, Bf b → Bf ms → bfGet x (bfAll b ms) = match bfGet x ms with
    | some m => some (newM m (bfGet x b))
    | none => bfGet x b
  | [], b, _, _ => rfl
  | m :: ms, b, h, hm => by
    have hm0 := hm.ok m (by simp)
    have ht : Bf ms := ⟨fun y hy => hm.ok y (List.mem_cons_of_mem _ hy), hm.srt.tail⟩
    have ih := get_ball_srt hx (bf_add h hm0) ht
    have e1 : bfAll b (m :: ms) = bfAll (bfAdd b m) ms := rfl
    rw [e1, ih, get_add h hm0 hx]
    by_cases c : x = m.key
    · have hg : bfGet x ms = none := by
        unfold bfGet
        rw [List.find?_eq_none]
        intro y hy
        have := hm.srt.head y hy
        simp only [decide_eq_true_eq]
        intro e
        rw [e, c] at this; omega
      have hg2 : bfGet x (m :: ms) = some m := by unfold bfGet; rw [List.find?_cons_of_pos]; simp [c]
      rw [hg, hg2, if_pos c, c]
    · have hg2 : bfGet x (m :: ms) = bfGet x ms := by unfold bfGet; rw [List.find?_cons_of_neg]; simp; exact fun e => c e.symm
      rw [hg2, if_neg c]
theorem ball_nil {l : List Msg} (h : Bf l) : bfAll [] l = l := by
  refine bf_ext (bf_all bf_nil h.ok) h fun k hk => ?_
  rw [get_ball_srt hk bf_nil h]
  cases bfGet k l <;> rfl
/-! ### parts -/
def partI (l : List Msg) (cuts : List Key) (i : Int) : List Msg := if 0 ≤ i ∧ i ≤ cuts.length then bfPart l cuts i.toNat else []
theorem part_len (l : List Msg) (cuts : List Key) (n : Nat) : (bfPart l cuts n).length ≤ l.length := by
  unfold bfPart
  rw [List.length_drop, List.length_take]; omega
theorem partI_len (l : List Msg) (cuts : List Key) (i : Int) : (partI l cuts i).length ≤ l.length := by
  unfold partI
  split
  · exact part_len _ _ _
  · simp
theorem a_bufpartI (l : List Msg) (cuts : List Key) (i : Int) (h : BSrt l) (hl : l.length ≤ 100000000) (hl2 : cuts.length ≤ 100000000) : AFn Try.prog 25 [msgsA l, keysA cuts, intA i] (msgsA (partI l cuts i)) := by
  unfold partI
  by_cases c : 0 ≤ i ∧ i ≤ cuts.length
  · rw [if_pos c]
    have := a_bufpart l cuts i.toNat h (by omega) hl hl2
    rwa [Int.toNat_of_nonneg c.1] at this
  · rw [if_neg c]
    exact a_bufpart_no l cuts i (by omega)
theorem a_ref06partI (l : List Msg) (cuts : List Key) (i : Int) (h : Bf l) (hr : Rise cuts) (hl : l.length ≤ 100000000) (hl2 : cuts.length ≤ 100000000) : AFn Try.prog 26 [msgsA l, keysA cuts, intA i] (msgsA (partI l cuts i)) := by
  unfold partI
  by_cases c : 0 ≤ i ∧ i ≤ cuts.length
  · rw [if_pos c]
    have := a_ref06part l cuts i.toNat h hr (by omega) hl hl2
    rwa [Int.toNat_of_nonneg c.1] at this
  · rw [if_neg c]
    exact a_ref06part_no l cuts i (by omega)
end Go.Proofs.Ytigbkhjcboecjaa
