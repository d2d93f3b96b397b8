/-
  FanIns: a kid behind another one: which keys go where. Plain Lean.
-/
import Derived.Test.YtmmifkobcmabpaaAfnTwo
namespace Go.Proofs.Ytmmifkobcmabpaa
open Go Go.RowKit
set_option linter.unusedVariables false
set_option linter.unusedSimpArgs false

theorem idxOf_nodup (l : List Int) (hn : l.Nodup) (i : Nat) (h : i < l.length) : idxOf l l[i] = (i : Int) := by
  have hp := List.pairwise_iff_getElem.1 hn
  have : ∀ k j, j + k = i → idxFrom l[i] j (l.drop j) = (i : Int) := by
    intro k
    induction k with
    | zero =>
      intro j hj
      have : j = i := by omega
      subst this
      exact idxFrom_hit _ _ _ h rfl
    | succ k ih =>
      intro j hj
      rw [idxFrom_miss _ _ _ (by omega) (hp j i (by omega) h (by omega))]
      exact ih (j + 1) (by omega)
  exact this i 0 (by omega)
theorem kidsFrom_nodup (l : List Int) (hn : l.Nodup) (hr : ∀ x ∈ l, 1 ≤ x ∧ x < 256) : kidsFrom l 0 l = true := by
  have : ∀ k j, j + k = l.length → kidsFrom l j (l.drop j) = true := by
    intro k
    induction k with
    | zero => intro j hj; exact kidsFrom_end _ _ _ (by omega)
    | succ k ih =>
      intro j hj
      have hl : j < l.length := by omega
      have hx := hr l[j] (List.getElem_mem hl)
      rw [kidsFrom_step _ _ _ hl, idxOf_nodup l hn j hl, ih (j + 1) (by omega)]
      rw [show decide (1 ≤ l[j]) = true from decide_eq_true hx.1, show decide (l[j] < 256) = true from decide_eq_true hx.2]
      simp
  exact this l.length 0 (by omega)
theorem insKids_perm (K : List Int) (i : Nat) (id : Int) : (insKids K i id).Perm (id :: K) := by
  unfold insKids
  have h := List.perm_middle (a := id) (l₁ := K.take (i + 1)) (l₂ := K.drop (i + 1))
  rw [List.take_append_drop] at h
  exact h
theorem insKids_lo (K : List Int) (i j : Nat) (id : Int) (hj : j ≤ i) (hi : i < K.length) (h : j < (insKids K i id).length) : (insKids K i id)[j] = K[j] := by
  simp only [insKids]
  rw [List.getElem_append_left (by simp; omega)]
  simp
theorem insKids_at (K : List Int) (i : Nat) (id : Int) (hi : i < K.length) (h : i + 1 < (insKids K i id).length) : (insKids K i id)[i + 1] = id := by
  simp only [insKids]
  rw [List.getElem_append_right (by simp; omega)]
  simp [show min (i + 1) K.length = i + 1 from by omega]
theorem insKids_hi (K : List Int) (i c : Nat) (id : Int) (hc : i < c) (hl : c < K.length) (h : c + 1 < (insKids K i id).length) : (insKids K i id)[c + 1] = K[c] := by
  simp only [insKids]
  rw [List.getElem_append_right (by simp; omega)]
  have e : c + 1 - (K.take (i + 1)).length = (c - i - 1) + 1 := by simp; omega
  simp only [e, List.singleton_append, List.getElem_cons_succ, List.getElem_drop]
  congr 1
  omega
theorem kidsL_nodup (v : Int) (n : Nat) : (kidsL v n).Nodup := by
  rw [List.nodup_iff_pairwise_ne, List.pairwise_iff_getElem]
  intro i j hi hj hij
  rw [kidsL_get, kidsL_get]
  omega
theorem kidsL_mem (v : Int) (n : Nat) (x : Int) (h : x ∈ kidsL v n) : 1 ≤ x ∧ x < 200 + 7 * (n : Int) := by
  obtain ⟨i, hi, rfl⟩ := List.mem_iff_getElem.1 h
  rw [kidsL_get]
  rw [kidsL_len] at hi
  have h1 := Int.emod_nonneg v (show (200 : Int) ≠ 0 by omega)
  have h2 := Int.emod_lt_of_pos v (show (0 : Int) < 200 by omega)
  omega
theorem kidBy_split (y : Key) (P : List Key) (i : Nat) (x : Key) : kidBy keyCmp y (insCuts P i x) = kidBy keyCmp y P + (if x.rank ≤ y.rank then 1 else 0) := by
  have h := sgn_le x.rank y.rank
  have e : kidBy keyCmp y P = kidBy keyCmp y (P.take i) + kidBy keyCmp y (P.drop i) := by
    unfold kidBy
    rw [← List.countP_append, List.take_append_drop]
  rw [e]
  unfold insCuts kidBy
  rw [List.countP_append, List.singleton_append, List.countP_cons]
  simp only [keyCmp_rank, decide_eq_true_eq, h]
  omega
theorem insCuts_rise {P : List Key} (h : Rise P) {x : Key} (hx : x.ok = true) (hn : ∀ (h0 : 0 < kidBy keyCmp x P) (h1 : kidBy keyCmp x P - 1 < P.length), P[kidBy keyCmp x P - 1] ≠ x) : Rise (insCuts P (kidBy keyCmp x P) x) := by
  have hlt : ∀ i (hi : i < P.length), i < kidBy keyCmp x P → P[i].rank < x.rank := fun i hi c => by
    have h1 := kidBy_lt h hi c
    have hk := kidBy_le keyCmp x P
    have h2 : kidBy keyCmp x P - 1 < P.length := by omega
    have h3 := kidBy_lt h (x := x) h2 (by omega)
    have h4 := hn (by omega) h2
    have h5 : P[kidBy keyCmp x P - 1].rank ≠ x.rank := fun e => h4 ((rank_inj (h.ok h2) hx).1 e)
    by_cases e : i = kidBy keyCmp x P - 1
    · subst e; omega
    · have := h.at hi h2 (by omega)
      omega
  have hge : ∀ i (hi : i < P.length), kidBy keyCmp x P ≤ i → x.rank < P[i].rank := fun i hi c => kidBy_ge h hi c
  unfold insCuts
  refine ⟨fun k hk => ?_, ?_⟩
  · simp only [List.mem_append, List.mem_cons, List.not_mem_nil, or_false] at hk
    rcases hk with hk | rfl | hk
    · exact h.1 k (List.mem_of_mem_take hk)
    · exact hx
    · exact h.1 k (List.mem_of_mem_drop hk)
  · rw [List.pairwise_append]
    refine ⟨h.2.sublist (List.take_sublist _ _), ?_, ?_⟩
    · rw [List.singleton_append, List.pairwise_cons]
      refine ⟨fun z hz => ?_, h.2.sublist (List.drop_sublist _ _)⟩
      obtain ⟨i, hi, rfl⟩ := List.mem_iff_getElem.1 hz
      rw [List.getElem_drop]
      exact hge _ (by simp at hi; omega) (by omega)
    · intro a ha b hb
      obtain ⟨i, hi, rfl⟩ := List.mem_iff_getElem.1 ha
      rw [List.length_take] at hi
      rw [List.getElem_take]
      have h1 := hlt i (by omega) (by omega)
      rcases List.mem_append.1 hb with hb | hb
      · rw [List.mem_singleton] at hb; subst hb; exact h1
      · obtain ⟨j, hj, rfl⟩ := List.mem_iff_getElem.1 hb
        rw [List.getElem_drop]
        have := hge (kidBy keyCmp x P + j) (by simp at hj; omega) (by omega)
        omega
end Go.Proofs.Ytmmifkobcmabpaa
