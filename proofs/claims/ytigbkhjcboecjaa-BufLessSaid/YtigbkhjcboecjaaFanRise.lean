/-
  FanRise: keys that rise: what putting one among them, and counting them, comes to. Plain Lean.
-/
import Derived.Test.YtigbkhjcboecjaaAfnLaw00
namespace Go.Proofs.Ytigbkhjcboecjaa
open Go Go.RowKit
set_option linter.unusedVariables false
set_option linter.unusedSimpArgs false

def Rise (l : List Key) : Prop := (∀ k ∈ l, k.ok = true) ∧ l.Pairwise fun a b => a.rank < b.rank
theorem Rise.nil : Rise [] := ⟨(fun k h => by cases h), List.Pairwise.nil⟩
theorem Rise.tail {x : Key} {l : List Key} (h : Rise (x :: l)) : Rise l := ⟨fun k hk => h.1 k (List.mem_cons_of_mem _ hk), (List.pairwise_cons.1 h.2).2⟩
theorem Rise.at {l : List Key} (h : Rise l) {i j : Nat} (hi : i < l.length) (hj : j < l.length) (hij : i < j) : l[i].rank < l[j].rank := List.pairwise_iff_getElem.1 h.2 i j hi hj hij
theorem Rise.ok {l : List Key} (h : Rise l) {i : Nat} (hi : i < l.length) : l[i].ok = true := h.1 _ (List.getElem_mem hi)
theorem kidBy_lt {l : List Key} (h : Rise l) {x : Key} : ∀ {i : Nat} (hi : i < l.length), i < kidBy keyCmp x l → l[i].rank ≤ x.rank := by
  induction l with
  | nil => intro i hi; cases hi
  | cons y l ih =>
    intro i hi hk
    by_cases c : keyCmp y x ≤ 0
    · cases i with
      | zero => rw [keyCmp_rank, sgn_le] at c; exact c
      | succ i =>
        have e : kidBy keyCmp x (y :: l) = kidBy keyCmp x l + 1 := by unfold kidBy; rw [List.countP_cons]; simp [c]
        exact ih h.tail (by simpa using hi) (by omega)
    · exfalso
      have e : kidBy keyCmp x (y :: l) = 0 := by
        unfold kidBy
        rw [List.countP_eq_zero]
        intro z hz
        rw [keyCmp_rank, sgn_le] at c
        rcases List.mem_cons.1 hz with rfl | hz
        · simp only [keyCmp_rank, sgn_le, decide_eq_true_eq]; omega
        · have := (List.pairwise_cons.1 h.2).1 z hz
          simp only [keyCmp_rank, sgn_le, decide_eq_true_eq]; omega
      omega
theorem kidBy_ge {l : List Key} (h : Rise l) {x : Key} : ∀ {i : Nat} (hi : i < l.length), kidBy keyCmp x l ≤ i → x.rank < l[i].rank := by
  induction l with
  | nil => intro i hi; cases hi
  | cons y l ih =>
    intro i hi hk
    by_cases c : keyCmp y x ≤ 0
    · have e : kidBy keyCmp x (y :: l) = kidBy keyCmp x l + 1 := by unfold kidBy; rw [List.countP_cons]; simp [c]
      cases i with
      | zero => omega
      | succ i => exact ih h.tail (by simpa using hi) (by omega)
    · rw [keyCmp_rank, sgn_le] at c
      cases i with
      | zero => simp; omega
      | succ i =>
        have hi' : i < l.length := by simpa using hi
        have := (List.pairwise_cons.1 h.2).1 _ (List.getElem_mem hi')
        simp only [List.getElem_cons_succ]
        omega
theorem kidBy_ref {l : List Key} (h : Rise l) {x : Key} (hx : x.ok = true) : kidBy refCmp x l = kidBy keyCmp x l := by
  unfold kidBy
  apply List.countP_congr
  intro z hz
  rw [refCmp_key (h.1 z hz) hx]
theorem atOf_ge {l : List Key} (h : Rise l) {x : Key} (hx : x.ok = true) {i : Nat} (hi : i < l.length) (hk : atOf refCmp x l ≤ i) : x.rank ≤ l[i].rank := by
  have h0 : atOf refCmp x l < l.length := by omega
  have hn := atOf_not refCmp x l h0
  rw [refCmp_rank (h.ok h0) hx, sgn_neg] at hn
  by_cases e : atOf refCmp x l = i
  · subst e; omega
  · have := h.at h0 hi (by omega)
    omega
theorem putKey_rise {l : List Key} (h : Rise l) (x : Key) : Rise (putKey refCmp l x) := by
  unfold putKey
  split
  · rename_i hx
    split
    · exact h
    · rename_i hn
      have hlt : ∀ i (hi : i < l.length), i < atOf refCmp x l → l[i].rank < x.rank := fun i hi c => by
        have := atOf_lt refCmp x l i hi c
        rwa [refCmp_rank (h.ok hi) hx, sgn_neg] at this
      have hge : ∀ i (hi : i < l.length), atOf refCmp x l ≤ i → x.rank < l[i].rank := fun i hi c => by
        have h1 := atOf_ge h hx hi c
        have h0 : atOf refCmp x l < l.length := by omega
        have h2 := atOf_ge h hx h0 (Nat.le_refl _)
        have h3 : l[atOf refCmp x l].rank ≠ x.rank := fun e => hn ⟨h0, by rw [List.getElem?_eq_getElem h0, (rank_inj (h.ok h0) hx).1 e]⟩
        by_cases e : atOf refCmp x l = i
        · subst e; omega
        · have := h.at h0 hi (by omega)
          omega
      refine ⟨fun k hk => ?_, ?_⟩
      · simp only [List.append_assoc, List.mem_append, List.mem_cons, List.not_mem_nil, or_false] at hk
        rcases hk with hk | rfl | hk
        · exact h.1 k (List.mem_of_mem_take hk)
        · exact hx
        · exact h.1 k (List.mem_of_mem_drop hk)
      · rw [List.append_assoc, List.pairwise_append]
        refine ⟨h.2.sublist (List.take_sublist _ _), ?_, ?_⟩
        · rw [List.singleton_append, List.pairwise_cons]
          refine ⟨fun z hz => ?_, h.2.sublist (List.drop_sublist _ _)⟩
          obtain ⟨i, hi, rfl⟩ := List.mem_iff_getElem.1 hz
          rw [List.getElem_drop]
          exact hge _ (by simp at hi; omega) (by omega)
        · intro a ha b hb
          obtain ⟨i, hi, rfl⟩ := List.mem_iff_getElem.1 ha
          rw [List.length_take] at hi
          rw [List.getElem_take]
          have h1 := hlt i (by omega) (by omega)
          rcases List.mem_append.1 hb with hb | hb
          · rw [List.mem_singleton] at hb; subst hb; exact h1
          · obtain ⟨j, hj, rfl⟩ := List.mem_iff_getElem.1 hb
            rw [List.getElem_drop]
            have := hge (atOf refCmp x l + j) (by simp at hj; omega) (by omega)
            omega
  · exact h
theorem orderK_rise (l : List Key) : Rise (orderK l) := by
  unfold orderK
  have : ∀ (l out : List Key), Rise out → Rise (l.foldl (putKey refCmp) out) := by
    intro l
    induction l with
    | nil => intro out h; exact h
    | cons x l ih => intro out h; exact ih _ (putKey_rise h x)
  exact this l [] Rise.nil
theorem pivK_rise (l : List Int) (most : Int) : Rise (pivK l most) := by
  unfold pivK
  have : ∀ (l : List Int) (out : List Key), Rise out → Rise (l.foldl (pivStep most) out) := by
    intro l
    induction l with
    | nil => intro out h; exact h
    | cons x l ih =>
      intro out h
      refine ih _ ?_
      unfold pivStep
      split
      · exact orderK_rise _
      · exact h
  exact this _ [] Rise.nil
theorem pivK_le (l : List Int) (most : Int) (h : 0 ≤ most) : ((pivK l most).length : Int) ≤ most := by
  unfold pivK
  have : ∀ (l : List Int) (out : List Key), (out.length : Int) ≤ most → ((l.foldl (pivStep most) out).length : Int) ≤ most := by
    intro l
    induction l with
    | nil => intro out h; exact h
    | cons x l ih =>
      intro out h
      refine ih _ ?_
      unfold pivStep
      split
      · assumption
      · exact h
  exact this _ [] (by simpa using h)
end Go.Proofs.Ytigbkhjcboecjaa
