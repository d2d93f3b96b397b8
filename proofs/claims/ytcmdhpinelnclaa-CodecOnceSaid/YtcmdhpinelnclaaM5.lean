/-
  M5: several texts as one: AfnLaw00, FanRise, BufChecks, LeafPure, LeafWalks, LeafPut, LeafPut2, LeafMore, LeafCheck, AfnInner, AfnTwo, BufLaws, BufAcc, NodePure, Codec2, Codec3, CodecPure, Codec6, Codec7, Codec8, NodeEq, AbsIfc, NodeWalks, NodeFits, Codec4. No condition beyond those that each theorem states.
-/
import Derived.Test.YtcmdhpinelnclaaM4
namespace Go.Proofs.Ytcmdhpinelnclaa
open Go Go.RowKit
set_option linter.unusedVariables false
set_option linter.unusedSimpArgs false
set_option maxRecDepth 100000

/-- where a key stands, or would -/
def atOf (cmp : Key → Key → Int) (x : Key) : List Key → Nat
  | [] => 0
  | y :: l => if cmp y x < 0 then atOf cmp x l + 1 else 0
theorem atOf_le (cmp : Key → Key → Int) (x : Key) : ∀ l, atOf cmp x l ≤ l.length
  | [] => Nat.le_refl _
  | y :: l => by
    unfold atOf
    split
    · have := atOf_le cmp x l; simp; omega
    · simp
theorem atOf_lt (cmp : Key → Key → Int) (x : Key) : ∀ (l : List Key) (i : Nat) (h : i < l.length), i < atOf cmp x l → cmp l[i] x < 0
  | y :: l, i, h, hi => by
    unfold atOf at hi
    split at hi
    · rename_i c
      cases i with
      | zero => exact c
      | succ i => exact atOf_lt cmp x l i (by simpa using h) (by omega)
    · omega
theorem atOf_not (cmp : Key → Key → Int) (x : Key) : ∀ (l : List Key) (h : atOf cmp x l < l.length), ¬ cmp l[atOf cmp x l] x < 0
  | y :: l, h => by
    by_cases c : cmp y x < 0
    · have e : atOf cmp x (y :: l) = atOf cmp x l + 1 := by rw [atOf, if_pos c]
      simp only [e, List.getElem_cons_succ]
      exact atOf_not cmp x l (by rw [e] at h; simpa using h)
    · have e : atOf cmp x (y :: l) = 0 := by rw [atOf, if_neg c]
      simp only [e, List.getElem_cons_zero]
      exact c
def putKey (cmp : Key → Key → Int) (out : List Key) (x : Key) : List Key :=
  if x.ok = true then (if (atOf cmp x out < out.length ∧ out[atOf cmp x out]? = some x) then out else out.take (atOf cmp x out) ++ [x] ++ out.drop (atOf cmp x out)) else out
def orderK (l : List Key) : List Key := l.foldl (putKey refCmp) []
theorem putKey_le (cmp : Key → Key → Int) (out : List Key) (x : Key) : (putKey cmp out x).length ≤ out.length + 1 := by
  unfold putKey
  split
  · split
    · omega
    · simp; omega
  · omega
theorem orderK_step (l : List Key) (i : Nat) (h : i < l.length) : orderK (l.take (i + 1)) = putKey refCmp (orderK (l.take i)) l[i] := by
  unfold orderK
  rw [List.take_succ_eq_append_getElem h, List.foldl_append]
  rfl
theorem orderK_le (l : List Key) : ∀ i, (orderK (l.take i)).length ≤ i
  | 0 => by simp [orderK]
  | i + 1 => by
    by_cases h : i < l.length
    · rw [orderK_step l i h]
      have := putKey_le refCmp (orderK (l.take i)) l[i]
      have := orderK_le l i
      omega
    · rw [List.take_of_length_le (by omega), ← List.take_of_length_le (show l.length ≤ i by omega)]
      have := orderK_le l i
      omega
attribute [local irreducible] OpOK AWops AW CondB Go2 AFn thenA inBlockA noGotoA orderOk wantedA
set_option maxRecDepth 100000 in
set_option maxHeartbeats 4000000 in
theorem a_order (l : List Key) (hl : l.length ≤ 1000000) : AFn Try.prog 53 [keysA l] (keysA (orderK l)) := by
  refine AFn_intro Try.func53 rfl Try.ntmps53 rfl (by simp) [_] rfl fun E hE => ?_
  refine wO ?_
  refine AW_go (Go2.nil 3 9 rfl) ?_
  refine AW_loopI (fun i : Nat => ⟨[(0, keysA l), (4, intA i), (3, keysA (orderK (l.take i)))], []⟩) (fun i => i ≤ l.length) (fun i => l.length - i) 0 (Nat.zero_le _) (by (refine Go2.sub ⟨?_, ?_, ?_⟩ <;> repeat' (first | exact True.intro | rfl | apply And.intro))) (fun i hi => ?_)
  by_cases hlt : i < l.length
  · have hs := orderK_step l i hlt
    have hle := orderK_le l i
    generalize ho : orderK (l.take i) = out at hs hle ⊢
    have ck := acall Try.func79 (a_refkeycheck l[i]) (by decide +kernel) (by decide +kernel)
    cases hk : l[i].ok with
    | false =>
      have hk' : (!l[i].ok) = true := by rw [hk]; rfl
      refine wO ?_
      rw [hk']
      refine wO ?_
      have e : orderK (l.take (i + 1)) = out := by rw [hs]; unfold putKey; rw [if_neg (by rw [hk]; simp)]
      refine ⟨i + 1, hlt, by omega, ?_⟩
      (refine Go2.sub ⟨?_, ?_, ?_⟩ <;> repeat' (first | exact True.intro | rfl | apply And.intro))
      all_goals (rw [e]; rfl)
    | true =>
      have hk' : (!l[i].ok) = false := by rw [hk]; rfl
      refine wO ?_
      rw [hk']
      refine wO ?_
      refine AW_loopI (fun j : Nat => ⟨[(0, keysA l), (4, intA i), (3, keysA out), (5, intA j)], []⟩) (fun j => j ≤ atOf refCmp l[i] out) (fun j => atOf refCmp l[i] out - j) 0 (Nat.zero_le _) (by (refine Go2.sub ⟨?_, ?_, ?_⟩ <;> repeat' (first | exact True.intro | rfl | apply And.intro))) (fun j hj => ?_)
      have hat := atOf_le refCmp l[i] out
      by_cases hj2 : j < out.length
      · have cc := acall Try.func76 (a_refcmp out[j] l[i]) (by decide +kernel) (by decide +kernel)
        by_cases hc : refCmp out[j] l[i] < 0
        · have hj4 : j + 1 ≤ atOf refCmp l[i] out := by
            have : j ≠ atOf refCmp l[i] out := fun e => by subst e; exact atOf_not refCmp l[i] out hj2 hc
            omega
          refine wO ?_
          refine ⟨j + 1, hj4, by omega, ?_⟩
          (refine Go2.sub ⟨?_, ?_, ?_⟩ <;> repeat' (first | exact True.intro | rfl | apply And.intro))
        · have hj5 : j = atOf refCmp l[i] out := by
            have : ¬ j < atOf refCmp l[i] out := fun h => hc (atOf_lt refCmp l[i] out j hj2 h)
            omega
          by_cases he : out[j] = l[i]
          · refine wO ?_
            have e : orderK (l.take (i + 1)) = out := by
              rw [hs]; unfold putKey
              rw [if_pos hk, ← hj5, if_pos ⟨hj2, by rw [List.getElem?_eq_getElem hj2, he]⟩]
            refine ⟨i + 1, hlt, by omega, ?_⟩
            (refine Go2.sub ⟨?_, ?_, ?_⟩ <;> repeat' (first | exact True.intro | rfl | apply And.intro))
            all_goals (rw [e]; rfl)
          · refine wO ?_
            have e : orderK (l.take (i + 1)) = out.take j ++ [l[i]] ++ out.drop j := by
              rw [hs]; unfold putKey
              rw [if_pos hk, ← hj5, if_neg (fun h => he (by have := h.2; rw [List.getElem?_eq_getElem hj2] at this; injection this))]
            refine ⟨i + 1, hlt, by omega, Go2.trans (Go2.weak 3 rfl) ?_⟩
            (refine Go2.sub ⟨?_, ?_, ?_⟩ <;> repeat' (first | exact True.intro | rfl | apply And.intro))
            all_goals (rw [e]; rfl)
      · have hj5 : j = atOf refCmp l[i] out := by omega
        refine wO ?_
        have e : orderK (l.take (i + 1)) = out.take j ++ [l[i]] ++ out.drop j := by
          rw [hs]; unfold putKey
          rw [if_pos hk, ← hj5, if_neg (fun h => hj2 h.1)]
        refine ⟨i + 1, hlt, by omega, Go2.trans (Go2.weak 3 rfl) ?_⟩
        (refine Go2.sub ⟨?_, ?_, ?_⟩ <;> repeat' (first | exact True.intro | rfl | apply And.intro))
        all_goals (rw [e]; rfl)
  · refine wO ?_
    have : i = l.length := by omega
    subst this
    exact fin ⟨res_sl (by rw [List.take_length]; rfl), trivial⟩
/-- pivots by numbers -/
def pivStep (most : Int) (out : List Key) (v : Int) : List Key := if ((orderK (out ++ [lawKey v])).length : Int) ≤ most then orderK (out ++ [lawKey v]) else out
def pivK (l : List Int) (most : Int) : List Key := (l.take 20).foldl (pivStep most) []
theorem orderK_len (l : List Key) : (orderK l).length ≤ l.length := by
  have := orderK_le l l.length
  rwa [List.take_length] at this
theorem pivStep_le (most : Int) (out : List Key) (v : Int) : (pivStep most out v).length ≤ out.length + 1 := by
  unfold pivStep
  split
  · have := orderK_len (out ++ [lawKey v])
    simpa using this
  · omega
def pivAt (l : List Int) (most : Int) (i : Nat) : List Key := (l.take i).foldl (pivStep most) []
theorem pivAt_step (l : List Int) (most : Int) (i : Nat) (h : i < l.length) : pivAt l most (i + 1) = pivStep most (pivAt l most i) l[i] := by
  unfold pivAt
  rw [List.take_succ_eq_append_getElem h, List.foldl_append]
  rfl
theorem pivAt_le (l : List Int) (most : Int) : ∀ i, (pivAt l most i).length ≤ i
  | 0 => by simp [pivAt]
  | i + 1 => by
    by_cases h : i < l.length
    · rw [pivAt_step l most i h]
      have := pivStep_le most (pivAt l most i) l[i]
      have := pivAt_le l most i
      omega
    · have e : pivAt l most (i + 1) = pivAt l most i := by unfold pivAt; rw [List.take_of_length_le (by omega), List.take_of_length_le (by omega)]
      rw [e]
      have := pivAt_le l most i
      omega
theorem pivAt_end (l : List Int) (most : Int) (i : Nat) (h : i ≤ l.length) (h20 : i ≤ 20) (hn : ¬ (i < l.length ∧ i < 20)) : pivAt l most i = pivK l most := by
  unfold pivAt pivK
  congr 1
  by_cases c : i < l.length
  · rw [show i = 20 from by omega]
  · rw [List.take_of_length_le (by omega), List.take_of_length_le (by omega)]
set_option maxRecDepth 100000 in
set_option maxHeartbeats 4000000 in
theorem a_pivots (l : List Int) (most : Int) (hl : l.length ≤ 1000000000000000000) (hb : ∀ n ∈ l, -9223372036854775808 ≤ n ∧ n ≤ 9223372036854775807) : AFn Try.prog 23 [intsA l, intA most] (keysA (pivK l most)) := by
  refine AFn_intro Try.func23 rfl Try.ntmps23 rfl (by simp) [_] rfl fun E hE => ?_
  refine wO ?_
  refine AW_go (Go2.nil 5 9 rfl) ?_
  refine AW_loopI (fun i : Nat => ⟨[(0, intsA l), (1, intA most), (6, intA i), (5, keysA (pivAt l most i))], []⟩) (fun i => i ≤ l.length ∧ i ≤ 20) (fun i => l.length - i) 0 ⟨Nat.zero_le _, Nat.zero_le _⟩ (by (refine Go2.sub ⟨?_, ?_, ?_⟩ <;> repeat' (first | exact True.intro | rfl | apply And.intro))) (fun i hi => ?_)
  obtain ⟨hi, hi20⟩ := hi
  by_cases hlt : i < l.length ∧ i < 20
  · obtain ⟨hlt, hlt20⟩ := hlt
    have hs := pivAt_step l most i hlt
    have hle := pivAt_le l most i
    generalize ho : pivAt l most i = out at hs hle ⊢
    have hc := a_lkey l[i] (hb _ (List.getElem_mem hlt))
    have hord := a_order (out ++ [lawKey l[i]]) (by simp; omega)
    have c1 := acall Try.func50 (hc) (by decide +kernel) (by decide +kernel)
    have c2 := acall Try.func53 (hord) (by decide +kernel) (by decide +kernel)
    by_cases hm : ((orderK (out ++ [lawKey l[i]])).length : Int) ≤ most
    · refine wO ?_
      have e : pivAt l most (i + 1) = orderK (out ++ [lawKey l[i]]) := by rw [hs]; unfold pivStep; rw [if_pos hm]
      refine ⟨i + 1, ⟨hlt, hlt20⟩, by omega, ?_⟩
      (refine Go2.sub ⟨?_, ?_, ?_⟩ <;> repeat' (first | exact True.intro | rfl | apply And.intro))
      all_goals (rw [e]; rfl)
    · refine wO ?_
      have e : pivAt l most (i + 1) = out := by rw [hs]; unfold pivStep; rw [if_neg hm]
      refine ⟨i + 1, ⟨hlt, hlt20⟩, by omega, ?_⟩
      (refine Go2.sub ⟨?_, ?_, ?_⟩ <;> repeat' (first | exact True.intro | rfl | apply And.intro))
      all_goals (rw [e]; rfl)
  · have he := pivAt_end l most i hi hi20 hlt
    rw [← he]
    by_cases hj : i < l.length
    · refine wO ?_
      exact fin ⟨res_sl rfl, trivial⟩
    · refine wO ?_
      exact fin ⟨res_sl rfl, trivial⟩
end Go.Proofs.Ytcmdhpinelnclaa

namespace Go.Proofs.Ytcmdhpinelnclaa
open Go Go.RowKit
set_option linter.unusedVariables false
set_option linter.unusedSimpArgs false
set_option maxRecDepth 100000

def Rise (l : List Key) : Prop := (∀ k ∈ l, k.ok = true) ∧ l.Pairwise fun a b => a.rank < b.rank
theorem Rise.nil : Rise [] := ⟨(fun k h => by cases h), List.Pairwise.nil⟩
theorem Rise.tail {x : Key} {l : List Key} (h : Rise (x :: l)) : Rise l := ⟨fun k hk => h.1 k (List.mem_cons_of_mem _ hk), (List.pairwise_cons.1 h.2).2⟩
theorem Rise.at {l : List Key} (h : Rise l) {i j : Nat} (hi : i < l.length) (hj : j < l.length) (hij : i < j) : l[i].rank < l[j].rank := List.pairwise_iff_getElem.1 h.2 i j hi hj hij
theorem Rise.ok {l : List Key} (h : Rise l) {i : Nat} (hi : i < l.length) : l[i].ok = true := h.1 _ (List.getElem_mem hi)
theorem atOf_ge {l : List Key} (h : Rise l) {x : Key} (hx : x.ok = true) {i : Nat} (hi : i < l.length) (hk : atOf refCmp x l ≤ i) : x.rank ≤ l[i].rank := by
  have h0 : atOf refCmp x l < l.length := by omega
  have hn := atOf_not refCmp x l h0
  rw [refCmp_rank (h.ok h0) hx, sgn_neg] at hn
  by_cases e : atOf refCmp x l = i
  · subst e; omega
  · have := h.at h0 hi (by omega)
    omega
theorem putKey_rise {l : List Key} (h : Rise l) (x : Key) : Rise (putKey refCmp l x) := by
  unfold putKey
  split
  · rename_i hx
    split
    · exact h
    · rename_i hn
      have hlt : ∀ i (hi : i < l.length), i < atOf refCmp x l → l[i].rank < x.rank := fun i hi c => by
        have := atOf_lt refCmp x l i hi c
        rwa [refCmp_rank (h.ok hi) hx, sgn_neg] at this
      have hge : ∀ i (hi : i < l.length), atOf refCmp x l ≤ i → x.rank < l[i].rank := fun i hi c => by
        have h1 := atOf_ge h hx hi c
        have h0 : atOf refCmp x l < l.length := by omega
        have h2 := atOf_ge h hx h0 (Nat.le_refl _)
        have h3 : l[atOf refCmp x l].rank ≠ x.rank := fun e => hn ⟨h0, by rw [List.getElem?_eq_getElem h0, (rank_inj (h.ok h0) hx).1 e]⟩
        by_cases e : atOf refCmp x l = i
        · subst e; omega
        · have := h.at h0 hi (by omega)
          omega
      refine ⟨fun k hk => ?_, ?_⟩
      · simp only [List.append_assoc, List.mem_append, List.mem_cons, List.not_mem_nil, or_false] at hk
        rcases hk with hk | rfl | hk
        · exact h.1 k (List.mem_of_mem_take hk)
        · exact hx
        · exact h.1 k (List.mem_of_mem_drop hk)
      · rw [List.append_assoc, List.pairwise_append]
        refine ⟨h.2.sublist (List.take_sublist _ _), ?_, ?_⟩
        · rw [List.singleton_append, List.pairwise_cons]
          refine ⟨fun z hz => ?_, h.2.sublist (List.drop_sublist _ _)⟩
          obtain ⟨i, hi, rfl⟩ := List.mem_iff_getElem.1 hz
          rw [List.getElem_drop]
          exact hge _ (by simp at hi; omega) (by omega)
        · intro a ha b hb
          obtain ⟨i, hi, rfl⟩ := List.mem_iff_getElem.1 ha
          rw [List.length_take] at hi
          rw [List.getElem_take]
          have h1 := hlt i (by omega) (by omega)
          rcases List.mem_append.1 hb with hb | hb
          · rw [List.mem_singleton] at hb; subst hb; exact h1
          · obtain ⟨j, hj, rfl⟩ := List.mem_iff_getElem.1 hb
            rw [List.getElem_drop]
            have := hge (atOf refCmp x l + j) (by simp at hj; omega) (by omega)
            omega
  · exact h
theorem orderK_rise (l : List Key) : Rise (orderK l) := by
  unfold orderK
  have : ∀ (l out : List Key), Rise out → Rise (l.foldl (putKey refCmp) out) := by
    intro l
    induction l with
    | nil => intro out h; exact h
    | cons x l ih => intro out h; exact ih _ (putKey_rise h x)
  exact this l [] Rise.nil
theorem pivK_rise (l : List Int) (most : Int) : Rise (pivK l most) := by
  unfold pivK
  have : ∀ (l : List Int) (out : List Key), Rise out → Rise (l.foldl (pivStep most) out) := by
    intro l
    induction l with
    | nil => intro out h; exact h
    | cons x l ih =>
      intro out h
      refine ih _ ?_
      unfold pivStep
      split
      · exact orderK_rise _
      · exact h
  exact this _ [] Rise.nil
theorem pivK_le (l : List Int) (most : Int) (h : 0 ≤ most) : ((pivK l most).length : Int) ≤ most := by
  unfold pivK
  have : ∀ (l : List Int) (out : List Key), (out.length : Int) ≤ most → ((l.foldl (pivStep most) out).length : Int) ≤ most := by
    intro l
    induction l with
    | nil => intro out h; exact h
    | cons x l ih =>
      intro out h
      refine ih _ ?_
      unfold pivStep
      split
      · assumption
      · exact h
  exact this _ [] (by simpa using h)
end Go.Proofs.Ytcmdhpinelnclaa

namespace Go.Proofs.Ytcmdhpinelnclaa
open Go Go.RowKit
set_option linter.unusedVariables false
set_option linter.unusedSimpArgs false
set_option maxRecDepth 100000

def keepP (cuts : List Key) (n : Nat) (m : Msg) : Bool := keepLo cuts m n && keepHi cuts m n
attribute [local irreducible] OpOK AWops AW CondB Go2 AFn thenA inBlockA noGotoA orderOk wantedA
set_option maxRecDepth 100000 in
set_option maxHeartbeats 8000000 in
theorem a_bufcheck (l : List Msg) (hl : l.length ≤ 100000000) : AFn Try.prog 127 [msgsA l] (boolA (msgsOkB keyCmp l)) := by
  refine AFn_intro Try.func127 rfl Try.ntmps127 rfl (by simp) [_] rfl fun E hE => ?_
  have k' : (!true) = false := rfl
  have k'' : (!false) = true := rfl
  refine wB ?_
  refine AW_loopI (fun j : Nat => ⟨[(0, msgsA l), (5, msgsA l), (6, intA l.length), (7, intA j)], []⟩) (fun j => j ≤ l.length ∧ ∀ i (hi : i < l.length), i < j → l[i].ok = true ∧ ∀ a (ha : a + 1 = i), keyCmp (l[a]'(by omega)).key l[i].key < 0) (fun j => l.length - j) 0 ⟨Nat.zero_le _, fun i _ h => by omega⟩ (by (refine Go2.sub ⟨?_, ?_, ?_⟩ <;> repeat' (first | exact True.intro | rfl | apply And.intro))) (fun j hj => ?_)
  obtain ⟨j1, j2⟩ := hj
  by_cases c : j < l.length
  · have d1 := a_msgcheck l[j]
    cases hk : l[j].ok with
    | false =>
      rw [hk] at d1
      rw [msgsOkB_false (msgsOk_nok c hk)]
      have f1 := acall Try.func130 (d1) (by decide +kernel) (by decide +kernel)
      refine wB ?_
      exact fin ⟨res_of rfl rfl rfl, trivial⟩
    | true =>
      rw [hk] at d1
      have f1 := acall Try.func130 (d1) (by decide +kernel) (by decide +kernel)
      cases j with
      | zero =>
        refine wB ?_
        refine ⟨1, ⟨c, fun i hi hij => ?_⟩, by omega, ?_⟩
        · obtain rfl : i = 0 := by omega
          exact ⟨hk, fun a ha => by omega⟩
        · (refine Go2.sub ⟨?_, ?_, ?_⟩ <;> repeat' (first | exact True.intro | rfl | apply And.intro))
      | succ m =>
        have f3 := acall Try.func117 (a_keycmp l[m].key l[m + 1].key) (by decide +kernel) (by decide +kernel)
        by_cases q : 0 ≤ keyCmp l[m].key l[m + 1].key
        · rw [msgsOkB_false (msgsOk_noc c q)]
          refine wB ?_
          exact fin ⟨res_of rfl rfl rfl, trivial⟩
        · refine wB ?_
          refine ⟨m + 1 + 1, ⟨c, fun i hi hij => ?_⟩, by omega, ?_⟩
          · by_cases e : i = m + 1
            · subst e
              exact ⟨hk, fun a ha => by
                have e : a = m := by omega
                subst e; exact Int.not_le.1 q⟩
            · exact j2 i hi (by omega)
          · (refine Go2.sub ⟨?_, ?_, ?_⟩ <;> repeat' (first | exact True.intro | rfl | apply And.intro))
  · rw [msgsOkB_true (fun i hi => j2 i hi (by omega))]
    refine wB ?_
    exact fin ⟨res_of rfl rfl rfl, trivial⟩
set_option maxRecDepth 100000 in
set_option maxHeartbeats 8000000 in
theorem a_ref06check (l : List Msg) (hl : l.length ≤ 100000000) : AFn Try.prog 73 [msgsA l] (boolA (msgsOkB refCmp l)) := by
  refine AFn_intro Try.func73 rfl Try.ntmps73 rfl (by simp) [_] rfl fun E hE => ?_
  have k' : (!true) = false := rfl
  have k'' : (!false) = true := rfl
  refine wB ?_
  refine AW_loopI (fun j : Nat => ⟨[(0, msgsA l), (3, intA j)], []⟩) (fun j => j ≤ l.length ∧ ∀ i (hi : i < l.length), i < j → l[i].ok = true ∧ ∀ a (ha : a + 1 = i), refCmp (l[a]'(by omega)).key l[i].key < 0) (fun j => l.length - j) 0 ⟨Nat.zero_le _, fun i _ h => by omega⟩ (by (refine Go2.sub ⟨?_, ?_, ?_⟩ <;> repeat' (first | exact True.intro | rfl | apply And.intro))) (fun j hj => ?_)
  obtain ⟨j1, j2⟩ := hj
  by_cases c : j < l.length
  · have d1 := a_ref05check l[j]
    cases hk : l[j].ok with
    | false =>
      rw [hk] at d1
      rw [msgsOkB_false (msgsOk_nok c hk)]
      have f1 := acall Try.func89 (d1) (by decide +kernel) (by decide +kernel)
      refine wB ?_
      exact fin ⟨res_of rfl rfl rfl, trivial⟩
    | true =>
      rw [hk] at d1
      have f1 := acall Try.func89 (d1) (by decide +kernel) (by decide +kernel)
      cases j with
      | zero =>
        refine wB ?_
        refine ⟨1, ⟨c, fun i hi hij => ?_⟩, by omega, ?_⟩
        · obtain rfl : i = 0 := by omega
          exact ⟨hk, fun a ha => by omega⟩
        · (refine Go2.sub ⟨?_, ?_, ?_⟩ <;> repeat' (first | exact True.intro | rfl | apply And.intro))
      | succ m =>
        have f3 := acall Try.func76 (a_refcmp l[m].key l[m + 1].key) (by decide +kernel) (by decide +kernel)
        by_cases q : 0 ≤ refCmp l[m].key l[m + 1].key
        · rw [msgsOkB_false (msgsOk_noc c q)]
          refine wB ?_
          exact fin ⟨res_of rfl rfl rfl, trivial⟩
        · refine wB ?_
          refine ⟨m + 1 + 1, ⟨c, fun i hi hij => ?_⟩, by omega, ?_⟩
          · by_cases e : i = m + 1
            · subst e
              exact ⟨hk, fun a ha => by
                have e : a = m := by omega
                subst e; exact Int.not_le.1 q⟩
            · exact j2 i hi (by omega)
          · (refine Go2.sub ⟨?_, ?_, ?_⟩ <;> repeat' (first | exact True.intro | rfl | apply And.intro))
  · rw [msgsOkB_true (fun i hi => j2 i hi (by omega))]
    refine wB ?_
    exact fin ⟨res_of rfl rfl rfl, trivial⟩
end Go.Proofs.Ytcmdhpinelnclaa

namespace Go.Proofs.Ytcmdhpinelnclaa
open Go Go.RowKit
set_option linter.unusedVariables false
set_option linter.unusedSimpArgs false
set_option maxRecDepth 100000

def Ent.size (e : Ent) : Int := 2 + e.key.n + e.val.n
def eSum (l : List Ent) : Int := (l.map Ent.size).sum
def lfAt (k : Key) (l : List Ent) : Nat := l.countP fun e => decide (e.key.rank < k.rank)
def Srt (l : List Ent) : Prop := l.Pairwise fun a b => a.key.rank < b.key.rank
def EOk (l : List Ent) : Prop := ∀ e ∈ l, e.key.ok = true ∧ e.val.ok = true
structure Lf (l : List Ent) : Prop where
  ok : EOk l
  srt : Srt l
/-- a key's value -/
def lfGet (k : Key) (l : List Ent) : Option Vl := (l.find? fun e => decide (e.key = k)).map (·.val)
/-- what a message makes of a key's value -/
def ap (m : Msg) (o : Option Vl) : Option Vl := if m.kind = 1 then some m.val else if m.kind = 2 then none else match o with
  | some v => some (vplus v m.add)
  | none => some (fromN m.add)
def opA (o : Option Vl) : Vl × Bool := match o with
  | some v => (v, true)
  | none => (Vl.zero, false)
theorem applyM_ap (m : Msg) (o : Option Vl) : applyM (opA o).1 (opA o).2 m = opA (ap m o) := by
  unfold applyM ap
  by_cases h1 : m.kind = 1
  · rw [if_pos h1, if_pos h1]; rfl
  · rw [if_neg h1, if_neg h1]
    by_cases h2 : m.kind = 2
    · rw [if_pos h2, if_pos h2]; rfl
    · rw [if_neg h2, if_neg h2]
      cases o <;> rfl
def newE (k : Key) (o : Option Vl) : List Ent := match o with
  | some v => [⟨k, v⟩]
  | none => []
def lfSet (l : List Ent) (k : Key) (o : Option Vl) : List Ent := l.filter (fun e => decide (e.key.rank < k.rank)) ++ (newE k o ++ l.filter (fun e => decide (k.rank < e.key.rank)))
/-- the leaf behind a message -/
def lfPut (l : List Ent) (m : Msg) : List Ent := lfSet l m.key (ap m (lfGet m.key l))
def lfAll (l : List Ent) (ms : List Msg) : List Ent := ms.foldl lfPut l

theorem lfAt_le (k : Key) (l : List Ent) : lfAt k l ≤ l.length := List.countP_le_length
theorem lfAt_cons (k : Key) (e : Ent) (l : List Ent) : lfAt k (e :: l) = lfAt k l + if e.key.rank < k.rank then 1 else 0 := by
  unfold lfAt
  rw [List.countP_cons]
  simp
theorem Srt.tail {e : Ent} {l : List Ent} (h : Srt (e :: l)) : Srt l := (List.pairwise_cons.1 h).2
theorem Srt.head {e : Ent} {l : List Ent} (h : Srt (e :: l)) : ∀ b ∈ l, e.key.rank < b.key.rank := (List.pairwise_cons.1 h).1
theorem lfAt_zero {k : Key} {l : List Ent} (h : ∀ b ∈ l, k.rank ≤ b.key.rank) : lfAt k l = 0 := by
  unfold lfAt
  rw [List.countP_eq_zero]
  intro b hb
  have := h b hb
  simp; omega
theorem lfAt_iff {k : Key} {l : List Ent} (h : Srt l) : ∀ i (hi : i < l.length), (i < lfAt k l ↔ l[i].key.rank < k.rank) := by
  induction l with
  | nil => intro i hi; cases hi
  | cons e l ih =>
    intro i hi
    rw [lfAt_cons]
    by_cases c : e.key.rank < k.rank
    · rw [if_pos c]
      cases i with
      | zero => simp [c]
      | succ i => simpa using ih h.tail i (by simpa using hi)
    · rw [if_neg c]
      have hz : lfAt k l = 0 := lfAt_zero fun b hb => by have := h.head b hb; omega
      rw [hz]
      cases i with
      | zero => simp; omega
      | succ i =>
        have hi' : i < l.length := by simpa using hi
        have := h.head l[i] (List.getElem_mem hi')
        simp; omega
theorem Srt.lt {l : List Ent} (h : Srt l) {i j : Nat} (hi : i < l.length) (hj : j < l.length) (hij : i < j) : l[i].key.rank < l[j].key.rank := List.pairwise_iff_getElem.1 h i j hi hj hij
theorem Srt.inj {l : List Ent} (h : Srt l) {a b : Ent} (ha : a ∈ l) (hb : b ∈ l) (he : a.key.rank = b.key.rank) : a = b := by
  obtain ⟨i, hi, rfl⟩ := List.mem_iff_getElem.1 ha
  obtain ⟨j, hj, rfl⟩ := List.mem_iff_getElem.1 hb
  rcases Nat.lt_trichotomy i j with c | c | c
  · have := h.lt hi hj c; omega
  · subst c; rfl
  · have := h.lt hj hi c; omega
theorem lfGet_iff {l : List Ent} (h : Srt l) (k : Key) (v : Vl) : lfGet k l = some v ↔ (⟨k, v⟩ : Ent) ∈ l := by
  unfold lfGet
  constructor
  · intro hf
    rw [Option.map_eq_some_iff] at hf
    obtain ⟨e, h1, h2⟩ := hf
    have h3 := List.mem_of_find?_eq_some h1
    have h4 := List.find?_some h1
    rw [decide_eq_true_eq] at h4
    subst h4; subst h2
    exact h3
  · intro hm
    cases hf : l.find? (fun e => decide (e.key = k)) with
    | none =>
      rw [List.find?_eq_none] at hf
      have := hf _ hm
      simp at this
    | some e =>
      have h3 := List.mem_of_find?_eq_some hf
      have h4 := List.find?_some hf
      rw [decide_eq_true_eq] at h4
      have := h.inj h3 hm (by rw [h4])
      rw [this]; rfl
/-! ### a key's entry by its place -/
theorem get_hit {l : List Ent} (h : Srt l) {k : Key} {i : Nat} (hi : i < l.length) (he : l[i].key = k) : lfGet k l = some l[i].val := by
  rw [lfGet_iff h]
  subst he
  exact List.getElem_mem hi
theorem get_none {l : List Ent} {k : Key} (hn : ∀ i (hi : i < l.length), l[i].key ≠ k) : lfGet k l = none := by
  unfold lfGet
  rw [List.find?_eq_none.2]
  · rfl
  · intro e he
    obtain ⟨i, hi, rfl⟩ := List.mem_iff_getElem.1 he
    simpa using hn i hi
theorem flt_lo {k : Key} {l : List Ent} (h : Srt l) : l.filter (fun e => decide (e.key.rank < k.rank)) = l.take (lfAt k l) := by
  induction l with
  | nil => rfl
  | cons e l ih =>
    rw [lfAt_cons]
    by_cases c : e.key.rank < k.rank
    · rw [if_pos c, List.filter_cons_of_pos (by simpa using c), List.take_succ_cons, ih h.tail]
    · rw [if_neg c, List.filter_cons_of_neg (by simpa using c)]
      have hz : lfAt k l = 0 := lfAt_zero fun b hb => by have := h.head b hb; omega
      rw [ih h.tail, hz]
      rfl
theorem flt_all {k : Key} {l : List Ent} (h : ∀ b ∈ l, k.rank < b.key.rank) : l.filter (fun e => decide (k.rank < e.key.rank)) = l := by
  rw [List.filter_eq_self]
  intro b hb
  simpa using h b hb
theorem flt_hi {k : Key} {l : List Ent} (h : Srt l) : l.filter (fun e => decide (k.rank < e.key.rank)) = l.drop (lfAt k l + if (∃ hi : lfAt k l < l.length, l[lfAt k l].key.rank = k.rank) then 1 else 0) := by
  induction l with
  | nil => simp
  | cons e l ih =>
    by_cases c : e.key.rank < k.rank
    · have e1 : lfAt k (e :: l) = lfAt k l + 1 := by rw [lfAt_cons, if_pos c]
      have e2 : (∃ hi : lfAt k (e :: l) < (e :: l).length, (e :: l)[lfAt k (e :: l)].key.rank = k.rank) ↔ (∃ hi : lfAt k l < l.length, l[lfAt k l].key.rank = k.rank) := by
        simp only [e1]
        constructor
        · rintro ⟨h1, h2⟩; exact ⟨by simpa using h1, by simpa using h2⟩
        · rintro ⟨h1, h2⟩; exact ⟨by simpa using h1, by simpa using h2⟩
      have ih' := ih h.tail
      rw [List.filter_cons_of_neg (by simp; omega), ih']
      by_cases g : ∃ hi : lfAt k l < l.length, l[lfAt k l].key.rank = k.rank
      · rw [if_pos g, if_pos (e2.2 g), e1, show lfAt k l + 1 + 1 = (lfAt k l + 1) + 1 from rfl, List.drop_succ_cons]
      · rw [if_neg g, if_neg (fun x => g (e2.1 x)), e1, Nat.add_zero, Nat.add_zero, List.drop_succ_cons]
    · have hz : lfAt k l = 0 := lfAt_zero fun b hb => by have := h.head b hb; omega
      have e1 : lfAt k (e :: l) = 0 := by rw [lfAt_cons, if_neg c, hz]
      rw [e1]
      by_cases d : e.key.rank = k.rank
      · rw [if_pos ⟨by simp [e1], by simpa [e1] using d⟩, List.filter_cons_of_neg (by simp; omega), flt_all (fun b hb => by have := h.head b hb; omega)]
        rfl
      · rw [if_neg (fun ⟨_, h2⟩ => d (by simpa [e1] using h2)), flt_all (fun b hb => by
          rcases List.mem_cons.1 hb with rfl | hb
          · omega
          · have := h.head b hb; omega)]
        rfl
theorem set_hit {l : List Ent} (h : Srt l) {k : Key} (o : Option Vl) (hi : lfAt k l < l.length) (he : l[lfAt k l].key = k) : lfSet l k o = l.take (lfAt k l) ++ (newE k o ++ l.drop (lfAt k l + 1)) := by
  unfold lfSet
  rw [flt_lo h, flt_hi h, if_pos ⟨hi, by rw [he]⟩]
theorem set_no {l : List Ent} (h : Lf l) {k : Key} (hk : k.ok = true) (o : Option Vl) (hn : ∀ (hi : lfAt k l < l.length), l[lfAt k l].key ≠ k) : lfSet l k o = l.take (lfAt k l) ++ (newE k o ++ l.drop (lfAt k l)) := by
  unfold lfSet
  rw [flt_lo h.srt, flt_hi h.srt, if_neg]
  · rfl
  · rintro ⟨hi, h2⟩
    exact hn hi ((rank_inj (h.ok _ (List.getElem_mem hi)).1 hk).1 h2)
/-! ### of a leaf with a key set -/
theorem mem_set {l : List Ent} {k : Key} {o : Option Vl} {e : Ent} : e ∈ lfSet l k o ↔ (e ∈ l ∧ e.key.rank ≠ k.rank) ∨ (e.key = k ∧ o = some e.val) := by
  unfold lfSet
  simp only [List.mem_append, List.mem_filter, decide_eq_true_eq]
  have hn : e ∈ newE k o ↔ e.key = k ∧ o = some e.val := by
    unfold newE
    cases o with
    | none => simp
    | some v =>
      simp only [List.mem_singleton, Option.some.injEq]
      constructor
      · rintro rfl; exact ⟨rfl, rfl⟩
      · rintro ⟨h1, h2⟩; cases e; simp_all
  rw [hn]
  constructor
  · rintro (⟨h1, h2⟩ | h1 | ⟨h1, h2⟩)
    · exact .inl ⟨h1, by omega⟩
    · exact .inr h1
    · exact .inl ⟨h1, by omega⟩
  · rintro (⟨h1, h2⟩ | h1)
    · rcases Nat.lt_or_gt_of_ne h2 with c | c
      · exact .inl ⟨h1, c⟩
      · exact .inr (.inr ⟨h1, c⟩)
    · exact .inr (.inl h1)
theorem srt_set {l : List Ent} (h : Srt l) (k : Key) (o : Option Vl) : Srt (lfSet l k o) := by
  unfold Srt lfSet
  have hn : ∀ e ∈ newE k o, e.key = k := fun e he => by
    unfold newE at he
    cases o with
    | none => cases he
    | some v => simp only [List.mem_singleton] at he; subst he; rfl
  rw [List.pairwise_append, List.pairwise_append]
  refine ⟨h.sublist List.filter_sublist, ⟨?_, h.sublist List.filter_sublist, fun a ha b hb => ?_⟩, fun a ha b hb => ?_⟩
  · unfold newE
    cases o with
    | none => exact List.Pairwise.nil
    | some v => exact List.pairwise_singleton ..
  · rw [hn a ha]
    simpa using (List.mem_filter.1 hb).2
  · have h1 : a.key.rank < k.rank := by simpa using (List.mem_filter.1 ha).2
    rcases List.mem_append.1 hb with hb | hb
    · rw [hn b hb]; exact h1
    · have h2 : k.rank < b.key.rank := by simpa using (List.mem_filter.1 hb).2
      omega
def OOk (o : Option Vl) : Prop := ∀ v, o = some v → v.ok = true
theorem lf_set {l : List Ent} (h : Lf l) {k : Key} (hk : k.ok = true) {o : Option Vl} (ho : OOk o) : Lf (lfSet l k o) := by
  refine ⟨fun e he => ?_, srt_set h.srt k o⟩
  rcases mem_set.1 he with ⟨h1, _⟩ | ⟨h1, h2⟩
  · exact h.ok e h1
  · exact ⟨by rw [h1]; exact hk, ho _ h2⟩
theorem get_ok {l : List Ent} (h : Lf l) (k : Key) : OOk (lfGet k l) := fun v hv => (h.ok _ ((lfGet_iff h.srt k v).1 hv)).2
theorem vplus_ok (v : Vl) (n : BitVec 64) : (vplus v n).ok = true := fromN_ok _
theorem ap_ok {m : Msg} (hm : m.ok = true) {o : Option Vl} (ho : OOk o) : OOk (ap m o) := by
  obtain ⟨h1, h2, h3, h4, _⟩ := Msg.spec hm
  unfold ap
  intro v hv
  split at hv
  · injection hv with hv; subst hv; exact h4
  · split at hv
    · cases hv
    · split at hv
      · injection hv with hv; subst hv; exact vplus_ok _ _
      · injection hv with hv; subst hv; exact fromN_ok _
theorem lf_put {l : List Ent} (h : Lf l) {m : Msg} (hm : m.ok = true) : Lf (lfPut l m) := lf_set h (Msg.spec hm).2.2.1 (ap_ok hm (get_ok h _))
theorem lf_nil : Lf [] := ⟨(fun e h => by cases h), List.Pairwise.nil⟩
theorem set_len {l : List Ent} (k : Key) (o : Option Vl) : (lfSet l k o).length ≤ l.length + 1 := by
  unfold lfSet
  have h1 : (newE k o).length ≤ 1 := by unfold newE; cases o <;> simp
  have h2 : (l.filter (fun e => decide (e.key.rank < k.rank))).length + (l.filter (fun e => decide (k.rank < e.key.rank))).length ≤ l.length := by
    induction l with
    | nil => simp
    | cons e l ih =>
      simp only [List.filter_cons]
      split <;> split <;> simp_all <;> omega
  simp only [List.length_append]
  omega
theorem put_len (l : List Ent) (m : Msg) : (lfPut l m).length ≤ l.length + 1 := set_len _ _
end Go.Proofs.Ytcmdhpinelnclaa

namespace Go.Proofs.Ytcmdhpinelnclaa
open Go Go.RowKit
set_option linter.unusedVariables false
set_option linter.unusedSimpArgs false
set_option maxRecDepth 100000

def lfHit (k : Key) (l : List Ent) : Bool := match l[lfAt k l]? with
  | some e => decide (e.key = k)
  | none => false
def opL (o : Option Vl) : List AV := [(opA o).1.av, boolA (opA o).2]
attribute [local irreducible] OpOK AWops AW CondB Go2 AFn thenA inBlockA noGotoA orderOk wantedA
set_option maxRecDepth 100000 in
set_option maxHeartbeats 4000000 in
theorem a_ref07find (l : List Ent) (k : Key) (h : Srt l) (hl : l.length ≤ 1000000000) : AFn Try.prog 74 [entsA l, k.av] (.tup [(opA (lfGet k l)).1.av, boolA (opA (lfGet k l)).2]) := by
  refine AFn_intro Try.func74 rfl Try.ntmps74 rfl (by simp) [_, _] rfl fun E hE => ?_
  refine wL ?_
  refine AW_loopI (fun j : Nat => ⟨[(0, entsA l), (3, .ptr 3 0 []), (4, .ptr 4 0 []), (6, intA j)], [(3, .var k.av), (4, .var Vl.zero.av)]⟩) (fun j => j ≤ l.length ∧ ∀ i (hi : i < l.length), i < j → l[i].key ≠ k) (fun j => l.length - j) 0 ⟨Nat.zero_le _, fun i _ h => by omega⟩ (by (refine Go2.sub ⟨?_, ?_, ?_⟩ <;> repeat' (first | exact True.intro | rfl | apply And.intro))) (fun j hj => ?_)
  obtain ⟨j1, j2⟩ := hj
  by_cases c : j < l.length
  · by_cases q : l[j].key = k
    · rw [get_hit h c q]
      refine wL ?_
      exact fin ⟨res_var rfl rfl rfl rfl, res_of rfl rfl rfl, trivial⟩
    · refine wL ?_
      refine ⟨j + 1, ⟨c, fun i hi hij => ?_⟩, by omega, ?_⟩
      · by_cases e : i = j
        · subst e; exact q
        · exact j2 i hi (by omega)
      · (refine Go2.sub ⟨?_, ?_, ?_⟩ <;> repeat' (first | exact True.intro | rfl | apply And.intro))
  · rw [get_none (fun i hi => j2 i hi (by omega))]
    refine wL ?_
    exact fin ⟨res_var rfl rfl rfl rfl, res_of rfl rfl rfl, trivial⟩
end Go.Proofs.Ytcmdhpinelnclaa

namespace Go.Proofs.Ytcmdhpinelnclaa
open Go Go.RowKit
set_option linter.unusedVariables false
set_option linter.unusedSimpArgs false
set_option maxRecDepth 100000

/-- what the document's loop has put out behind j entries -/
def outP (l : List Ent) (p q : Nat) (new : List Ent) (j : Nat) : List Ent := l.take (min j p) ++ ((if p < j then new else []) ++ (l.take j).drop q)
theorem outP_zero (l : List Ent) (p q : Nat) (new : List Ent) : outP l p q new 0 = [] := by simp [outP]
theorem outP_lo {l : List Ent} {p q : Nat} {new : List Ent} {j : Nat} (hp : p ≤ q) (hj : j < p) (hl : j < l.length) : outP l p q new (j + 1) = outP l p q new j ++ [l[j]] := by
  unfold outP
  rw [if_neg (by omega), if_neg (by omega), Nat.min_eq_left (by omega), Nat.min_eq_left (by omega), List.drop_eq_nil_of_le (by simp; omega), List.drop_eq_nil_of_le (by simp; omega)]
  simp only [List.append_nil]
  exact (List.take_append_getElem hl).symm
theorem drop_take_snoc {l : List Ent} {q j : Nat} (hq : q ≤ j) (hl : j < l.length) : (l.take (j + 1)).drop q = (l.take j).drop q ++ [l[j]] := by
  rw [← List.take_append_getElem hl, List.drop_append_of_le_length (by simp; omega)]
theorem outP_no {l : List Ent} {p : Nat} {new : List Ent} (hl : p < l.length) : outP l p p new (p + 1) = (outP l p p new p ++ new) ++ [l[p]] := by
  unfold outP
  rw [if_pos (by omega), if_neg (by omega), Nat.min_eq_right (by omega), Nat.min_self, drop_take_snoc (Nat.le_refl _) hl, List.drop_eq_nil_of_le (by simp; omega)]
  simp
theorem outP_hit {l : List Ent} {p : Nat} {new : List Ent} (hl : p < l.length) : outP l p (p + 1) new (p + 1) = outP l p (p + 1) new p ++ new := by
  unfold outP
  rw [if_pos (by omega), if_neg (by omega), Nat.min_eq_right (by omega), Nat.min_self, List.drop_eq_nil_of_le (by simp; omega), List.drop_eq_nil_of_le (by simp; omega)]
  simp
theorem outP_hi {l : List Ent} {p q : Nat} {new : List Ent} {j : Nat} (hq : q ≤ j) (hj : p < j) (hl : j < l.length) : outP l p q new (j + 1) = outP l p q new j ++ [l[j]] := by
  unfold outP
  rw [if_pos (by omega), if_pos (by omega), Nat.min_eq_right (by omega), Nat.min_eq_right (by omega), drop_take_snoc hq hl]
  simp
theorem outP_end {l : List Ent} {p q : Nat} {new : List Ent} (hp : p < l.length) : outP l p q new l.length = l.take p ++ (new ++ l.drop q) := by
  unfold outP
  rw [if_pos hp, Nat.min_eq_right (by omega), List.take_length]
theorem outP_end' {l : List Ent} {p q : Nat} {new : List Ent} (hp : p = l.length) (hq : p ≤ q) : outP l p q new l.length ++ new = l.take p ++ (new ++ l.drop q) := by
  unfold outP
  rw [if_neg (by omega), Nat.min_eq_left (by omega), List.take_length, List.drop_eq_nil_of_le (by omega)]
  subst hp
  simp
theorem outP_len {l : List Ent} {p q : Nat} {new : List Ent} (j : Nat) (hn : new.length ≤ 1) : (outP l p q new j).length ≤ 2 * l.length + 1 := by
  unfold outP
  simp only [List.length_append, List.length_take, List.length_drop]
  split <;> simp <;> omega
attribute [local irreducible] OpOK AWops AW CondB Go2 AFn thenA inBlockA noGotoA orderOk wantedA
set_option maxRecDepth 100000 in
set_option maxHeartbeats 8000000 in
theorem a_ref07put (l : List Ent) (m : Msg) (h : Lf l) (hm : m.key.ok = true) (hl : l.length ≤ 1000000000) : AFn Try.prog 49 [entsA l, m.av] (entsA (lfPut l m)) := by
  refine AFn_intro Try.func49 rfl Try.ntmps49 rfl (by simp) [_] rfl fun E hE => ?_
  have c1 := a_ref07find l m.key h.srt hl
  have c2 := a_refapply (opA (lfGet m.key l)).1 (opA (lfGet m.key l)).2 m
  rw [applyM_ap] at c2
  unfold lfPut
  have d1 := acall Try.func74 (c1) (by decide +kernel) (by decide +kernel)
  have d2 := acall Try.func75 (c2) (by decide +kernel) (by decide +kernel)
  generalize ap m (lfGet m.key l) = r at d2 ⊢
  have hnt : (!true) = false := rfl
  have hnf : (!false) = true := rfl
  have hple := lfAt_le m.key l
  have hnl : (newE m.key r).length ≤ 1 := by unfold newE; cases r <;> simp
  obtain ⟨q, hq, hset, hcase⟩ : ∃ q, lfAt m.key l ≤ q ∧ lfSet l m.key r = l.take (lfAt m.key l) ++ (newE m.key r ++ l.drop q) ∧ ∀ (hi : lfAt m.key l < l.length), (q = lfAt m.key l + 1 ∧ refCmp l[lfAt m.key l].key m.key = 0) ∨ (q = lfAt m.key l ∧ 0 < refCmp l[lfAt m.key l].key m.key) := by
    by_cases e : ∃ hi : lfAt m.key l < l.length, l[lfAt m.key l].key = m.key
    · obtain ⟨hi, e⟩ := e
      exact ⟨_, Nat.le_succ _, set_hit h.srt r hi e, fun _ => .inl ⟨rfl, by rw [refCmp_rank (h.ok _ (List.getElem_mem hi)).1 hm, e, sgn_same]⟩⟩
    · refine ⟨_, Nat.le_refl _, set_no h hm r (fun hi e' => e ⟨hi, e'⟩), fun hi => .inr ⟨rfl, ?_⟩⟩
      have ho := (h.ok _ (List.getElem_mem hi)).1
      rw [refCmp_rank ho hm, sgn_pos]
      have h1 := (lfAt_iff (k := m.key) h.srt _ hi)
      have h2 : l[lfAt m.key l].key.rank ≠ m.key.rank := fun e' => e ⟨hi, (rank_inj ho hm).1 e'⟩
      omega
  rw [hset]
  have hlo : ∀ j (hj : j < l.length), j < lfAt m.key l → refCmp l[j].key m.key < 0 := fun j hj c => by
    rw [refCmp_rank (h.ok _ (List.getElem_mem hj)).1 hm, sgn_neg]; exact (lfAt_iff h.srt j hj).1 c
  have hhi : ∀ j (hj : j < l.length), lfAt m.key l < j → 0 < refCmp l[j].key m.key := fun j hj c => by
    rw [refCmp_rank (h.ok _ (List.getElem_mem hj)).1 hm, sgn_pos]
    have h1 := h.srt.lt (by omega) hj c
    have h2 := lfAt_iff (k := m.key) h.srt (lfAt m.key l) (by omega)
    omega
  generalize lfAt m.key l = p at hq hcase hlo hhi hple ⊢
  refine wB ?_
  refine AW_go (Go2.token 9 9 25 64 rfl rfl) ?_
  refine AW_loopI (fun j : Nat => ⟨[(0, entsA l), (3, .ptr 3 0 []), (7, .ptr 7 0 []), (8, boolA (opA r).2), (9, .sl (some 9) 26 ((outP l p q (newE m.key r) j).map Ent.av)), (10, boolA (decide (p < j))), (11, intA j)], [(3, .var m.av), (7, .var (opA r).1.av), (9, .tail 64 26 (outP l p q (newE m.key r) j).length)]⟩) (fun j => j ≤ l.length) (fun j => l.length - j) 0 (Nat.zero_le _) (by rw [outP_zero, decide_eq_false (Nat.not_lt_zero p)]; (refine Go2.sub ⟨?_, ?_, ?_⟩ <;> repeat' (first | exact True.intro | rfl | apply And.intro))) (fun j hj => ?_)
  have hol := outP_len (l := l) (p := p) (q := q) (new := newE m.key r) j hnl
  by_cases c : j < l.length
  · have d3 := acall Try.func76 (a_refcmp l[j].key m.key) (by decide +kernel) (by decide +kernel)
    rcases Nat.lt_trichotomy j p with c1 | c1 | c1
    · have hc := hlo j c c1
      have hs := outP_lo (new := newE m.key r) hq c1 c
      refine wB ?_
      refine ⟨j + 1, c, by omega, ?_⟩
      rw [hs, show decide (p < j + 1) = decide (p < j) from by rw [decide_eq_false (by omega), decide_eq_false (by omega)]]
      (refine Go2.sub ⟨?_, ?_, ?_⟩ <;> repeat' (first | exact True.intro | rfl | apply And.intro))
    · subst c1
      have hb : (!decide (j < j)) = true := by simp
      rcases hcase c with ⟨hqe, hc⟩ | ⟨hqe, hc⟩
      · subst hqe
        have hs := outP_hit (new := newE m.key r) c
        cases r with
        | none =>
          refine wB ?_
          refine ⟨j + 1, c, by omega, ?_⟩
          rw [hs, decide_eq_true (Nat.lt_succ_self j)]
          simp only [newE, List.append_nil]
          (refine Go2.sub ⟨?_, ?_, ?_⟩ <;> repeat' (first | exact True.intro | rfl | apply And.intro))
        | some v =>
          refine wB ?_
          refine ⟨j + 1, c, by omega, ?_⟩
          rw [hs, decide_eq_true (Nat.lt_succ_self j)]
          (refine Go2.sub ⟨?_, ?_, ?_⟩ <;> repeat' (first | exact True.intro | rfl | apply And.intro))
      · obtain rfl : j = q := hqe.symm
        have hs := outP_no (new := newE m.key r) c
        cases r with
        | none =>
          refine wB ?_
          refine ⟨j + 1, c, by omega, ?_⟩
          rw [hs, decide_eq_true (Nat.lt_succ_self j)]
          simp only [newE, List.append_nil]
          (refine Go2.sub ⟨?_, ?_, ?_⟩ <;> repeat' (first | exact True.intro | rfl | apply And.intro))
        | some v =>
          have hn1 : (outP l j j (newE m.key (some v)) j ++ ([⟨m.key, v⟩] : List Ent)).length ≤ 2 * l.length + 2 := by simp; omega
          refine wB ?_
          refine ⟨j + 1, c, by omega, ?_⟩
          rw [hs, decide_eq_true (Nat.lt_succ_self j)]
          (refine Go2.sub ⟨?_, ?_, ?_⟩ <;> repeat' (first | exact True.intro | rfl | apply And.intro))
    · have hc := hhi j c c1
      have hb : (!decide (p < j)) = false := by simp; omega
      have hqj : q ≤ j := by rcases hcase (by omega) with ⟨e, _⟩ | ⟨e, _⟩ <;> omega
      have hs := outP_hi (new := newE m.key r) hqj c1 c
      refine wB ?_
      refine ⟨j + 1, c, by omega, ?_⟩
      rw [hs, show decide (p < j + 1) = decide (p < j) from by rw [decide_eq_true (by omega), decide_eq_true (by omega)]]
      (refine Go2.sub ⟨?_, ?_, ?_⟩ <;> repeat' (first | exact True.intro | rfl | apply And.intro))
  · obtain rfl : j = l.length := by omega
    by_cases e : p < l.length
    · have hb : (!decide (p < l.length)) = false := by simp; omega
      rw [← outP_end e]
      refine wB ?_
      exact fin ⟨res_sl rfl, trivial⟩
    · have hb : (!decide (p < l.length)) = true := by simp; omega
      have hs := outP_end' (new := newE m.key r) (show p = l.length by omega) hq
      cases r with
      | none =>
        rw [← hs]
        simp only [newE, List.append_nil]
        refine wB ?_
        exact fin ⟨res_sl rfl, trivial⟩
      | some v =>
        rw [← hs]
        refine wB ?_
        exact fin ⟨res_sl rfl, trivial⟩
end Go.Proofs.Ytcmdhpinelnclaa

namespace Go.Proofs.Ytcmdhpinelnclaa
open Go Go.RowKit
set_option linter.unusedVariables false
set_option linter.unusedSimpArgs false
set_option maxRecDepth 100000

section
variable {E : Env} {nt : Nat} {ops : Array Oper} {T : Nat → Option AV} {H : Hp} {d : Option Nat} {ty : TypeId} {pos : String} {af : Array Edge} {gd : Option (Nat × Bool)}
end
attribute [local irreducible] OpOK AWops AW CondB Go2 AFn thenA inBlockA noGotoA orderOk wantedA
end Go.Proofs.Ytcmdhpinelnclaa

namespace Go.Proofs.Ytcmdhpinelnclaa
open Go Go.RowKit
set_option linter.unusedVariables false
set_option linter.unusedSimpArgs false
set_option maxRecDepth 100000

def EBd (l : List Ent) : Prop := ∀ e ∈ l, (0 ≤ e.key.n ∧ e.key.n ≤ 8) ∧ (0 ≤ e.val.n ∧ e.val.n ≤ 16)
theorem EOk.bd {l : List Ent} (h : EOk l) : EBd l := fun e he => ⟨Key.n_le (h e he).1, Vl.n_le (h e he).2⟩
theorem eSum_append (a b : List Ent) : eSum (a ++ b) = eSum a + eSum b := by simp [eSum]
theorem eSum_snoc (l : List Ent) (j : Nat) (h : j < l.length) : eSum (l.take (j + 1)) = eSum (l.take j) + l[j].size := by
  rw [← List.take_append_getElem h, eSum_append]
  simp [eSum]
theorem EBd.sum : ∀ {l : List Ent}, EBd l → 2 * (l.length : Int) ≤ eSum l ∧ eSum l ≤ 26 * (l.length : Int)
  | [], _ => by simp [eSum]
  | e :: l, h => by
    have h1 := EBd.sum (l := l) (fun x hx => h x (List.mem_cons_of_mem _ hx))
    have h2 := h e (by simp)
    have h3 : eSum (e :: l) = e.size + eSum l := by simp [eSum]
    unfold Ent.size at h3
    rw [h3]
    simp only [List.length_cons]
    omega
theorem EBd.take {l : List Ent} (h : EBd l) (j : Nat) : EBd (l.take j) := fun e he => h e (List.mem_of_mem_take he)
theorem EBd.drop {l : List Ent} (h : EBd l) (j : Nat) : EBd (l.drop j) := fun e he => h e (List.mem_of_mem_drop he)
/-- entries of a leaf, by neighbours -/
def EntsOk (cmp : Key → Key → Int) (l : List Ent) : Prop := ∀ j (h : j < l.length), l[j].key.ok = true ∧ l[j].val.ok = true ∧ ∀ i (hi : i + 1 = j), cmp (l[i]'(by omega)).key l[j].key < 0
noncomputable def entsOkB (cmp : Key → Key → Int) (l : List Ent) : Bool := @decide (EntsOk cmp l) (Classical.propDecidable _)
theorem entsOkB_true {cmp : Key → Key → Int} {l : List Ent} (h : EntsOk cmp l) : entsOkB cmp l = true := by unfold entsOkB; exact @decide_eq_true _ (Classical.propDecidable _) h
theorem entsOkB_false {cmp : Key → Key → Int} {l : List Ent} (h : ¬ EntsOk cmp l) : entsOkB cmp l = false := by unfold entsOkB; exact @decide_eq_false _ (Classical.propDecidable _) h
theorem entsOk_ref (l : List Ent) : EntsOk refCmp l ↔ EntsOk keyCmp l := by
  constructor <;>
  · intro h j hj
    obtain ⟨h1, h2, h3⟩ := h j hj
    refine ⟨h1, h2, fun i hi => ?_⟩
    have := h3 i hi
    first
      | rwa [refCmp_key (h i (by omega)).1 h1] at this
      | rwa [refCmp_key (h i (by omega)).1 h1]
theorem entsOkB_ref (l : List Ent) : entsOkB refCmp l = entsOkB keyCmp l := by
  by_cases c : EntsOk keyCmp l
  · rw [entsOkB_true c, entsOkB_true ((entsOk_ref l).2 c)]
  · rw [entsOkB_false c, entsOkB_false (fun h => c ((entsOk_ref l).1 h))]
theorem Lf.ents {l : List Ent} (h : Lf l) : EntsOk keyCmp l := fun j hj => ⟨(h.ok _ (List.getElem_mem hj)).1, (h.ok _ (List.getElem_mem hj)).2, fun i hi => by
  rw [keyCmp_rank, sgn_neg]; exact h.srt.lt (by omega) hj (by omega)⟩
attribute [local irreducible] OpOK AWops AW CondB Go2 AFn thenA inBlockA noGotoA orderOk wantedA
set_option maxRecDepth 100000 in
set_option maxHeartbeats 8000000 in
theorem a_leafsize (e : Ent) (h : (0 ≤ e.key.n ∧ e.key.n ≤ 8) ∧ (0 ≤ e.val.n ∧ e.val.n ≤ 16)) : AFn Try.prog 114 [e.av] (intA e.size) := by
  refine AFn_intro Try.func114 rfl Try.ntmps114 rfl (by simp) [_] rfl fun E hE => ?_
  unfold Ent.size
  refine wB ?_
  exact fin ⟨res_of rfl rfl rfl, trivial⟩
set_option maxRecDepth 100000 in
set_option maxHeartbeats 8000000 in
theorem a_leafbytes (l : List Ent) (h : EBd l) (hl : l.length ≤ 100000000) : AFn Try.prog 112 [entsA l] (intA (eSum l)) := by
  refine AFn_intro Try.func112 rfl Try.ntmps112 rfl (by simp) [_] rfl fun E hE => ?_
  refine wB ?_
  refine AW_loopI (fun j : Nat => ⟨[(6, entsA l), (7, intA l.length), (8, intA j), (3, intA (eSum (l.take j)))], []⟩) (fun j => j ≤ l.length) (fun j => l.length - j) 0 (Nat.zero_le _) (by (refine Go2.sub ⟨?_, ?_, ?_⟩ <;> repeat' (first | exact True.intro | rfl | apply And.intro))) (fun j hj => ?_)
  have hb := (h.take j).sum
  rw [List.length_take] at hb
  by_cases c : j < l.length
  · have hs := eSum_snoc l j c
    have he := h l[j] (List.getElem_mem c)
    have hz : l[j].size = 2 + l[j].key.n + l[j].val.n := rfl
    have d1 := acall Try.func114 (a_leafsize l[j] he) (by decide +kernel) (by decide +kernel)
    refine wB ?_
    refine ⟨j + 1, c, by omega, ?_⟩
    rw [hs]
    (refine Go2.sub ⟨?_, ?_, ?_⟩ <;> repeat' (first | exact True.intro | rfl | apply And.intro))
  · obtain rfl : j = l.length := by omega
    rw [List.take_length]
    refine wB ?_
    exact fin ⟨res_of rfl rfl rfl, trivial⟩
set_option maxRecDepth 100000 in
set_option maxHeartbeats 8000000 in
theorem a_ref07bytes (l : List Ent) (h : EBd l) (hl : l.length ≤ 100000000) : AFn Try.prog 52 [entsA l] (intA (eSum l)) := by
  refine AFn_intro Try.func52 rfl Try.ntmps52 rfl (by simp) [_] rfl fun E hE => ?_
  refine wB ?_
  refine AW_loopI (fun j : Nat => ⟨[(0, entsA l), (3, intA (eSum (l.take j))), (4, intA j)], []⟩) (fun j => j ≤ l.length) (fun j => l.length - j) 0 (Nat.zero_le _) (by (refine Go2.sub ⟨?_, ?_, ?_⟩ <;> repeat' (first | exact True.intro | rfl | apply And.intro))) (fun j hj => ?_)
  have hb := (h.take j).sum
  rw [List.length_take] at hb
  by_cases c : j < l.length
  · have hs : eSum (l.take (j + 1)) = eSum (l.take j) + 2 + l[j].key.n + l[j].val.n := by
      rw [eSum_snoc l j c]; unfold Ent.size; omega
    have he := h l[j] (List.getElem_mem c)
    refine wB ?_
    refine ⟨j + 1, c, by omega, ?_⟩
    rw [hs]
    (refine Go2.sub ⟨?_, ?_, ?_⟩ <;> repeat' (first | exact True.intro | rfl | apply And.intro))
  · obtain rfl : j = l.length := by omega
    rw [List.take_length]
    refine wB ?_
    exact fin ⟨res_of rfl rfl rfl, trivial⟩
end Go.Proofs.Ytcmdhpinelnclaa

namespace Go.Proofs.Ytcmdhpinelnclaa
open Go Go.RowKit
set_option linter.unusedVariables false
set_option linter.unusedSimpArgs false
set_option maxRecDepth 100000

theorem entsOk_nok {cmp : Key → Key → Int} {l : List Ent} {j : Nat} (h : j < l.length) (e : l[j].key.ok = false) : ¬ EntsOk cmp l := fun k => by
  have := (k j h).1
  rw [e] at this; cases this
theorem entsOk_nov {cmp : Key → Key → Int} {l : List Ent} {j : Nat} (h : j < l.length) (e : l[j].val.ok = false) : ¬ EntsOk cmp l := fun k => by
  have := (k j h).2.1
  rw [e] at this; cases this
theorem entsOk_noc {cmp : Key → Key → Int} {l : List Ent} {i : Nat} (h : i + 1 < l.length) (e : 0 ≤ cmp l[i].key l[i + 1].key) : ¬ EntsOk cmp l := fun k => by
  have := (k (i + 1) h).2.2 i rfl
  omega
attribute [local irreducible] OpOK AWops AW CondB Go2 AFn thenA inBlockA noGotoA orderOk wantedA
set_option maxRecDepth 100000 in
set_option maxHeartbeats 8000000 in
theorem a_leafcheck (l : List Ent) (hl : l.length ≤ 100000000) : AFn Try.prog 113 [entsA l] (boolA (entsOkB keyCmp l)) := by
  refine AFn_intro Try.func113 rfl Try.ntmps113 rfl (by simp) [_] rfl fun E hE => ?_
  have k' : (!true) = false := rfl
  have k'' : (!false) = true := rfl
  refine wL ?_
  refine AW_loopI (fun j : Nat => ⟨[(0, entsA l), (5, entsA l), (6, intA l.length), (7, intA j)], []⟩) (fun j => j ≤ l.length ∧ ∀ i (hi : i < l.length), i < j → l[i].key.ok = true ∧ l[i].val.ok = true ∧ ∀ a (ha : a + 1 = i), keyCmp (l[a]'(by omega)).key l[i].key < 0) (fun j => l.length - j) 0 ⟨Nat.zero_le _, fun i _ h => by omega⟩ (by (refine Go2.sub ⟨?_, ?_, ?_⟩ <;> repeat' (first | exact True.intro | rfl | apply And.intro))) (fun j hj => ?_)
  obtain ⟨j1, j2⟩ := hj
  by_cases c : j < l.length
  · have d1 := a_keycheck l[j].key
    have d2 := a_vlcheck l[j].val
    cases hk : l[j].key.ok with
    | false =>
      rw [hk] at d1
      rw [entsOkB_false (entsOk_nok c hk)]
      have f1 := acall Try.func115 (d1) (by decide +kernel) (by decide +kernel)
      refine wL ?_
      exact fin ⟨res_of rfl rfl rfl, trivial⟩
    | true =>
      rw [hk] at d1
      cases hv : l[j].val.ok with
      | false =>
        rw [hv] at d2
        rw [entsOkB_false (entsOk_nov c hv)]
        have f1 := acall Try.func115 (d1) (by decide +kernel) (by decide +kernel)
        have f2 := acall Try.func116 (d2) (by decide +kernel) (by decide +kernel)
        refine wL ?_
        exact fin ⟨res_of rfl rfl rfl, trivial⟩
      | true =>
        rw [hv] at d2
        have f1 := acall Try.func115 (d1) (by decide +kernel) (by decide +kernel)
        have f2 := acall Try.func116 (d2) (by decide +kernel) (by decide +kernel)
        cases j with
        | zero =>
          refine wL ?_
          refine ⟨1, ⟨c, fun i hi hij => ?_⟩, by omega, ?_⟩
          · obtain rfl : i = 0 := by omega
            exact ⟨hk, hv, fun a ha => by omega⟩
          · (refine Go2.sub ⟨?_, ?_, ?_⟩ <;> repeat' (first | exact True.intro | rfl | apply And.intro))
        | succ m =>
          have f3 := acall Try.func117 (a_keycmp l[m].key l[m + 1].key) (by decide +kernel) (by decide +kernel)
          by_cases q : 0 ≤ keyCmp l[m].key l[m + 1].key
          · rw [entsOkB_false (entsOk_noc c q)]
            refine wL ?_
            exact fin ⟨res_of rfl rfl rfl, trivial⟩
          · refine wL ?_
            refine ⟨m + 1 + 1, ⟨c, fun i hi hij => ?_⟩, by omega, ?_⟩
            · by_cases e : i = m + 1
              · subst e
                exact ⟨hk, hv, fun a ha => by
                  have e : a = m := by omega
                  subst e; exact Int.not_le.1 q⟩
              · exact j2 i hi (by omega)
            · (refine Go2.sub ⟨?_, ?_, ?_⟩ <;> repeat' (first | exact True.intro | rfl | apply And.intro))
  · rw [entsOkB_true (fun i hi => j2 i hi (by omega))]
    refine wL ?_
    exact fin ⟨res_of rfl rfl rfl, trivial⟩
set_option maxRecDepth 100000 in
set_option maxHeartbeats 8000000 in
theorem a_ref07check (l : List Ent) (hl : l.length ≤ 100000000) : AFn Try.prog 71 [entsA l] (boolA (entsOkB refCmp l)) := by
  refine AFn_intro Try.func71 rfl Try.ntmps71 rfl (by simp) [_] rfl fun E hE => ?_
  have k' : (!true) = false := rfl
  have k'' : (!false) = true := rfl
  refine wL ?_
  refine AW_loopI (fun j : Nat => ⟨[(0, entsA l), (3, intA j)], []⟩) (fun j => j ≤ l.length ∧ ∀ i (hi : i < l.length), i < j → l[i].key.ok = true ∧ l[i].val.ok = true ∧ ∀ a (ha : a + 1 = i), refCmp (l[a]'(by omega)).key l[i].key < 0) (fun j => l.length - j) 0 ⟨Nat.zero_le _, fun i _ h => by omega⟩ (by (refine Go2.sub ⟨?_, ?_, ?_⟩ <;> repeat' (first | exact True.intro | rfl | apply And.intro))) (fun j hj => ?_)
  obtain ⟨j1, j2⟩ := hj
  by_cases c : j < l.length
  · have d1 := a_refkeycheck l[j].key
    have d2 := a_refvlcheck l[j].val
    cases hk : l[j].key.ok with
    | false =>
      rw [hk] at d1
      rw [entsOkB_false (entsOk_nok c hk)]
      have f1 := acall Try.func79 (d1) (by decide +kernel) (by decide +kernel)
      refine wL ?_
      exact fin ⟨res_of rfl rfl rfl, trivial⟩
    | true =>
      rw [hk] at d1
      cases hv : l[j].val.ok with
      | false =>
        rw [hv] at d2
        rw [entsOkB_false (entsOk_nov c hv)]
        have f1 := acall Try.func79 (d1) (by decide +kernel) (by decide +kernel)
        have f2 := acall Try.func87 (d2) (by decide +kernel) (by decide +kernel)
        refine wL ?_
        exact fin ⟨res_of rfl rfl rfl, trivial⟩
      | true =>
        rw [hv] at d2
        have f1 := acall Try.func79 (d1) (by decide +kernel) (by decide +kernel)
        have f2 := acall Try.func87 (d2) (by decide +kernel) (by decide +kernel)
        cases j with
        | zero =>
          refine wL ?_
          refine ⟨1, ⟨c, fun i hi hij => ?_⟩, by omega, ?_⟩
          · obtain rfl : i = 0 := by omega
            exact ⟨hk, hv, fun a ha => by omega⟩
          · (refine Go2.sub ⟨?_, ?_, ?_⟩ <;> repeat' (first | exact True.intro | rfl | apply And.intro))
        | succ m =>
          have f3 := acall Try.func76 (a_refcmp l[m].key l[m + 1].key) (by decide +kernel) (by decide +kernel)
          by_cases q : 0 ≤ refCmp l[m].key l[m + 1].key
          · rw [entsOkB_false (entsOk_noc c q)]
            refine wL ?_
            exact fin ⟨res_of rfl rfl rfl, trivial⟩
          · refine wL ?_
            refine ⟨m + 1 + 1, ⟨c, fun i hi hij => ?_⟩, by omega, ?_⟩
            · by_cases e : i = m + 1
              · subst e
                exact ⟨hk, hv, fun a ha => by
                  have e : a = m := by omega
                  subst e; exact Int.not_le.1 q⟩
              · exact j2 i hi (by omega)
            · (refine Go2.sub ⟨?_, ?_, ?_⟩ <;> repeat' (first | exact True.intro | rfl | apply And.intro))
  · rw [entsOkB_true (fun i hi => j2 i hi (by omega))]
    refine wL ?_
    exact fin ⟨res_of rfl rfl rfl, trivial⟩
end Go.Proofs.Ytcmdhpinelnclaa

namespace Go.Proofs.Ytcmdhpinelnclaa
open Go Go.RowKit
set_option linter.unusedVariables false
set_option linter.unusedSimpArgs false
set_option maxRecDepth 100000

/-- the kids by a number -/
def kidsL (v : Int) (n : Nat) : List Int := (List.range n).map fun i : Nat => 1 + v % 200 + 7 * (i : Int)
theorem kidsL_len (v : Int) (n : Nat) : (kidsL v n).length = n := by simp [kidsL]
theorem kidsL_succ (v : Int) (n : Nat) : kidsL v (n + 1) = kidsL v n ++ [1 + v % 200 + 7 * (n : Int)] := by simp [kidsL, List.range_succ]
def innerAt (v : Int) (P : List Key) : Nat → St
  | 0 => ⟨[(6, .ptr 6 0 []), (7, .ptr 7 0 []), (8, intA (1 + v % 200)), (9, intA ((0 : Nat) : Int))], [(6, .var (nodeA false nilA nilA nilA nilA)), (7, .var (nodeA false nilA nilA (keysA P) (msgsA [])))]⟩
  | j + 1 => ⟨[(6, .ptr 6 0 []), (7, .ptr 7 0 []), (8, intA (1 + v % 200)), (9, intA ((j + 1 : Nat) : Int))], [(6, .var (nodeA false nilA nilA nilA nilA)), (7, .var (nodeA false nilA (.sl (some 34) 1 ((kidsL v (j + 1)).map intA)) (keysA P) (msgsA []))), (34, .tail 3 1 (kidsL v (j + 1)).length)]⟩
attribute [local irreducible] OpOK AWops AW CondB Go2 AFn thenA inBlockA noGotoA orderOk wantedA
end Go.Proofs.Ytcmdhpinelnclaa

namespace Go.Proofs.Ytcmdhpinelnclaa
open Go Go.RowKit
set_option linter.unusedVariables false
set_option linter.unusedSimpArgs false
set_option maxRecDepth 100000

theorem kidsL_get (v : Int) (n i : Nat) (h : i < (kidsL v n).length) : (kidsL v n)[i] = 1 + v % 200 + 7 * (i : Int) := by
  simp [kidsL]
theorem kidsL_idx (v : Int) (n i : Nat) (h : i < n) : idxOf (kidsL v n) (1 + v % 200 + 7 * (i : Int)) = (i : Int) := by
  have : ∀ j, j ≤ i → idxFrom (1 + v % 200 + 7 * (i : Int)) j ((kidsL v n).drop j) = (i : Int) := by
    intro j hj
    induction h2 : i - j generalizing j with
    | zero =>
      have : j = i := by omega
      subst this
      exact idxFrom_hit _ _ _ (by rw [kidsL_len]; exact h) (kidsL_get v n j _)
    | succ k ih =>
      rw [idxFrom_miss _ _ _ (by rw [kidsL_len]; omega) (by rw [kidsL_get]; omega)]
      exact ih (j + 1) (by omega) (by omega)
  exact this 0 (Nat.zero_le _)
theorem kidsL_ok (v : Int) (n : Nat) (hn : n ≤ 4) : kidsFrom (kidsL v n) 0 (kidsL v n) = true := by
  have : ∀ k j, j + k = n → kidsFrom (kidsL v n) j ((kidsL v n).drop j) = true := by
    intro k
    induction k with
    | zero => intro j hj; exact kidsFrom_end _ _ _ (by rw [kidsL_len]; omega)
    | succ k ih =>
      intro j hj
      have hl : j < (kidsL v n).length := by rw [kidsL_len]; omega
      have h1 := Int.emod_nonneg v (show (200 : Int) ≠ 0 by omega)
      have h2 := Int.emod_lt_of_pos v (show (0 : Int) < 200 by omega)
      rw [kidsFrom_step _ _ _ hl, kidsL_get, kidsL_idx v n j (by omega), ih (j + 1) (by omega)]
      rw [show decide (1 ≤ 1 + v % 200 + 7 * (j : Int)) = true from decide_eq_true (by omega), show decide (1 + v % 200 + 7 * (j : Int) < 256) = true from decide_eq_true (by omega)]
      simp
  exact this n 0 (by omega)
theorem rise_ok {cs : List Key} (h : Rise cs) : risesBy keyCmp none cs = true := by
  have : ∀ (l : List Key) (p : Option Key), Rise l → (∀ q, p = some q → ∀ k ∈ l, q.rank < k.rank) → risesBy keyCmp p l = true := by
    intro l
    induction l with
    | nil => intro p _ _; rfl
    | cons k l ih =>
      intro p hr hp
      unfold risesBy
      rw [hr.1 k (List.mem_cons_self ..), ih (some k) hr.tail (fun q e => by injection e with e; subst e; exact (List.pairwise_cons.1 hr.2).1)]
      cases p with
      | none => rfl
      | some q =>
        have := hp q rfl k (List.mem_cons_self ..)
        have e : decide (keyCmp q k < 0) = true := decide_eq_true (by rw [keyCmp_rank, sgn_neg]; exact this)
        show (true && decide (keyCmp q k < 0) && true) = true
        rw [e]; rfl
  exact this cs none h (fun q e => by cases e)
theorem orderK_some (l : List Key) (x : Key) (hx : x.ok = true) : 1 ≤ (orderK (l ++ [x])).length := by
  unfold orderK
  rw [List.foldl_append]
  generalize l.foldl (putKey refCmp) [] = out
  show 1 ≤ (putKey refCmp out x).length
  unfold putKey
  rw [if_pos hx]
  split
  · rename_i h; omega
  · simp; omega
theorem pivK_some (l : List Int) (x most : Int) (hm : 1 ≤ most) : 1 ≤ (pivK (x :: l) most).length := by
  unfold pivK
  have : ∀ (l : List Int) (out : List Key), 1 ≤ out.length → 1 ≤ (l.foldl (pivStep most) out).length := by
    intro l
    induction l with
    | nil => intro out h; exact h
    | cons y l ih =>
      intro out h
      refine ih _ ?_
      unfold pivStep
      split
      · exact orderK_some _ _ (lawKey_ok y)
      · exact h
  show 1 ≤ ((l.take 19).foldl (pivStep most) (pivStep most [] x)).length
  refine this _ _ ?_
  have h1 := orderK_some [] (lawKey x) (lawKey_ok x)
  have h2 := orderK_len ([] ++ [lawKey x])
  unfold pivStep
  rw [if_pos (by simp at h2 ⊢; omega)]
  exact h1
theorem two_ok (v : Int) (p : List Int) : fanOkBy keyCmp (kidsL v ((pivK (16 :: p) 3).length + 1)) (pivK (16 :: p) 3) = true := by
  have h1 := pivK_some p 16 3 (by omega)
  have h2 := pivK_le (16 :: p) 3 (by omega)
  rw [fan_on _ _ keyCmp (by rw [kidsL_len]; omega) (by rw [kidsL_len]; omega) (by rw [kidsL_len]) (kidsL_ok v _ (by omega))]
  exact rise_ok (pivK_rise _ _)
attribute [local irreducible] OpOK AWops AW CondB Go2 AFn thenA inBlockA noGotoA orderOk wantedA
end Go.Proofs.Ytcmdhpinelnclaa

namespace Go.Proofs.Ytcmdhpinelnclaa
open Go Go.RowKit
set_option linter.unusedVariables false
set_option linter.unusedSimpArgs false
set_option maxRecDepth 100000

/-! ### a message more -/
/-! ### batches -/
/-! ### what is left -/
/-! ### folds -/
/-! ### parts -/
def partI (l : List Msg) (cuts : List Key) (i : Int) : List Msg := if 0 ≤ i ∧ i ≤ cuts.length then bfPart l cuts i.toNat else []
end Go.Proofs.Ytcmdhpinelnclaa

namespace Go.Proofs.Ytcmdhpinelnclaa
open Go Go.RowKit
set_option linter.unusedVariables false
set_option linter.unusedSimpArgs false
set_option maxRecDepth 100000

/-- how many of the buffer stand ahead of a part -/
def accP (cuts : List Key) (l : List Msg) (j : Nat) : Nat := if j ≤ cuts.length then pFrom cuts l j else l.length
end Go.Proofs.Ytcmdhpinelnclaa

namespace Go.Proofs.Ytcmdhpinelnclaa
open Go Go.RowKit
set_option linter.unusedVariables false
set_option linter.unusedSimpArgs false
set_option maxRecDepth 100000

structure Nd where
  leaf : Bool
  es : List Ent
  ks : List Int
  ps : List Key
  ms : List Msg
deriving DecidableEq
def Nd.av (n : Nd) : AV := nodeA n.leaf (entsA n.es) (intsA n.ks) (keysA n.ps) (msgsA n.ms)
/-- what a leaf may be, what an inner node may be -/
noncomputable def leafOk (cmp : Key → Key → Int) (n : Nd) : Bool := entsOkB cmp n.es && decide (n.ks.length + n.ps.length + n.ms.length = 0)
noncomputable def innerOk (cmp : Key → Key → Int) (n : Nd) : Bool := decide (n.es.length = 0) && fanOkBy cmp n.ks n.ps && msgsOkB cmp n.ms
noncomputable def nodeOk (cmp : Key → Key → Int) (n : Nd) : Bool := if n.leaf = true then leafOk cmp n else innerOk cmp n
theorem nodeOk_ref (n : Nd) : nodeOk refCmp n = nodeOk keyCmp n := by
  unfold nodeOk leafOk innerOk
  rw [entsOkB_ref, fanOk_eq, msgsOkB_ref]
def ndBytes (n : Nd) : Int := if n.leaf = true then eSum n.es else bSum n.ms
noncomputable def nodeFits (n : Nd) : Bool := nodeOk keyCmp n && decide (ndBytes n ≤ if n.leaf = true then 248 else 205)
theorem nodeOk_ebd {n : Nd} (h : nodeOk keyCmp n = true) (hl : n.leaf = true) : EBd n.es := by
  unfold nodeOk at h
  rw [if_pos hl] at h
  unfold leafOk at h
  rw [Bool.and_eq_true] at h
  have h1 : EntsOk keyCmp n.es := by
    apply Classical.byContradiction
    intro hn
    rw [entsOkB_false hn] at h
    cases h.1
  intro e he
  obtain ⟨j, hj, rfl⟩ := List.getElem_of_mem he
  exact ⟨Key.n_le (h1 j hj).1, Vl.n_le (h1 j hj).2.1⟩
def ndHeavy (n : Nd) : Bool := !n.leaf && decide (205 ≤ 2 * bSum n.ms)
/-! ### weights -/
def ndWeights (n : Nd) : List Int := if n.leaf = true then [] else (List.range n.ks.length).map fun i => bSum (bfPart n.ms n.ps i)
def wtsAt (n : Nd) (j : Nat) : List Int := (List.range j).map fun i => bSum (bfPart n.ms n.ps i)
/-- the place of the first that has most, and how much that is -/
def hvStep (i : Nat) (s : Int × Int) (x : Int) : Int × Int := if s.2 < x then ((i : Int), x) else s
def hvAt (w : List Int) : Nat → Int × Int
  | 0 => (-1, 0)
  | j + 1 => match w[j]? with
    | some x => hvStep j (hvAt w j) x
    | none => hvAt w j
def hvOf (w : List Int) : Int := (hvAt w w.length).1
end Go.Proofs.Ytcmdhpinelnclaa

namespace Go.Proofs.Ytcmdhpinelnclaa
open Go Go.RowKit
set_option linter.unusedVariables false
set_option linter.unusedSimpArgs false
set_option maxRecDepth 100000

theorem wY {Q R : Prop} (k : R) (h : Hid R → Q := by intro kHid; (repeat (first | (first | refine Wend _ ?_ | refine AW_seq ?_ | refine AW_reg ?_ | refine AW_drw mixed ?_ | refine AW_block ?_ | refine AW_scope ?_ | refine thenA_n ?_ | refine blockA_n ?_ | refine blockA_h ?_ | refine scopeA_n ?_ | refine thenA_r ?_ | refine blockA_r ?_ | refine scopeA_r ?_ | refine thenA_e ?_ | refine scopeA_e ?_ | refine blockA_e rfl ?_ | refine AW_exit ?_ | refine AW_ret ?_ | refine AW_skip ?_ | refine AW_c rfl ?_ | with_reducible refine cb_t ?_ | with_reducible refine cb_f ?_ | with_reducible refine cb_yes (by first | assumption | omega) ?_ | with_reducible refine cb_no (by first | assumption | omega) ?_ | refine And.intro (by decide +kernel) ?_) | (first | (apply Wv; (focus (first | exact step_ok rfl rfl | exact ok_nilc rfl rfl | exact o_idx rfl rfl rfl rfl (by first | assumption | omega | decide) | exact o_idx3 rfl rfl rfl rfl (by first | assumption | omega | decide) | exact o_idx2 rfl rfl rfl rfl rfl (by first | assumption | omega | decide) | exact o_idxr rfl rfl rfl rfl rfl rfl | exact o_lenm rfl rfl rfl | exact o_len rfl rfl rfl | exact o_len0 rfl rfl rfl | exact o_lens rfl rfl rfl | exact o_lent rfl rfl | exact ob_len rfl rfl rfl rfl (by first | rfl | assumption | omega | (simp; done) | (simp; omega)) | exact o_add1 rfl rfl rfl (by omega) | exact o_addn rfl rfl rfl (by omega) | exact o_addc rfl rfl rfl (by omega) (by omega) | exact o_add rfl rfl rfl (by omega) | exact o_sub1 rfl rfl rfl (by omega) | exact o_sub rfl rfl rfl (by omega) | exact o_acall rfl rfl rfl rfl (by assumption) | exact o_convb ⟨_, Try.underlying3⟩ Try.underlying5 rfl rfl | exact o_convu ⟨_, Try.underlying3⟩ Try.underlying71 rfl rfl | exact o_cv32 ⟨_, Try.underlying77⟩ Try.underlying71 rfl rfl | exact o_cvk ⟨_, Try.underlying71⟩ Try.underlying3 rfl rfl | exact o_cv8 ⟨_, Try.underlying5⟩ Try.underlying3 rfl rfl | exact o_convs Try.underlying33 Try.underlying5 Try.underlying9 rfl rfl | exact ob_cutr rfl rfl rfl (by simp) (by decide) | exact ob_cutf rfl rfl rfl rfl rfl rfl (by simp) (by decide) | exact ob_cutfh rfl rfl rfl rfl rfl rfl rfl (by first | assumption | omega) (by simp) (by decide) | exact ok_cut_arr tabT rfl rfl rfl bnd_none (Nat.le_refl _) (by decide) | exact o_cutlh rfl rfl rfl rfl rfl (by omega) (by omega) | exact o_cutl rfl rfl rfl rfl (by omega) | exact o_cuth rfl rfl rfl rfl (by omega) | exact o_cutl3 rfl rfl rfl rfl (by omega) | exact o_cuth3 rfl rfl rfl rfl (by omega) | exact o_cutl2 rfl rfl rfl rfl rfl (by omega) | exact o_cuth2 rfl rfl rfl rfl rfl (by omega) | exact o_cutlh2 rfl rfl rfl rfl rfl rfl rfl (by omega) (by omega) | exact ob_cutl rfl rfl rfl rfl rfl rfl (by first | rfl | assumption | omega | (simp; done) | (simp; omega)) (by first | rfl | assumption | omega | (simp; done) | (simp; omega)) | exact ob_cutlh rfl rfl rfl rfl rfl rfl rfl rfl (by first | rfl | assumption | omega | (simp; done) | (simp; omega)) (by first | rfl | assumption | omega | (simp; done) | (simp; omega)) (by first | rfl | assumption | omega | (simp; done) | (simp; omega)) | exact ob_idx rfl rfl rfl rfl rfl rfl (by first | rfl | assumption | omega | (simp; done) | (simp; omega)) (by first | rfl | assumption | omega | (simp; done) | (simp; omega)) | exact ob_ld rfl rfl rfl (by first | rfl | assumption | omega | (simp; done) | (simp; omega)) (by first | rfl | assumption | omega | (simp; done) | (simp; omega)) rfl rfl | exact e_bld rfl rfl rfl | exact e_bldk rfl rfl | exact z_bld0 rfl rfl rfl rfl rfl | exact z_bld rfl rfl rfl rfl rfl rfl rfl | exact o_mkfn rfl rfl rfl | exact o_xorb rfl rfl rfl)); (focus (first | exact want_n | exact want_g rfl (by with_reducible rfl)))) | (apply Wb; (focus (first | exact o_box rfl rfl rfl rfl | exact ob_app rfl rfl rfl rfl rfl (by first | exact o_many rfl | exact o_one _ _ rfl | exact o_zero rfl) (by first | rfl | assumption | omega | (simp; done) | (simp; omega)) (by first | omega | (simp; omega) | (simp; done)) (by first | omega | (simp; omega) | (simp; done)) | exact oo_app0 rfl rfl rfl rfl rfl (by first | exact o_many rfl | exact o_one _ _ rfl | exact o_zero rfl) (by first | omega | (simp; omega) | (simp; done)) (by first | omega | (simp; omega) | (simp; done)) | exact o_app rfl rfl rfl rfl rfl (by first | exact o_many rfl | exact o_one _ _ rfl | exact o_zero rfl) (by first | omega | (simp; omega) | (simp; done)) (by first | omega | (simp; omega) | (simp; done)) | exact o_appn rfl rfl rfl rfl rfl (by first | exact o_many rfl | exact o_one _ _ rfl | exact o_zero rfl) (by first | omega | (simp; omega) | (simp; done)) (by first | omega | (simp; omega) | (simp; done)) | exact o_app1 rfl rfl rfl rfl rfl (by first | exact o_many rfl | exact o_one _ _ rfl | exact o_zero rfl) (by exact rfl) (by first | omega | (simp; omega) | (simp; done)) (by first | omega | (simp; omega) | (simp; done)) | exact o_app0 rfl rfl rfl rfl rfl (by first | exact o_many rfl | exact o_one _ _ rfl | exact o_zero rfl) (by first | omega | (simp; omega) | (simp; done)) (by first | omega | (simp; omega) | (simp; done)) | exact o_bsl0O rfl rfl rfl | exact z_bsll rfl rfl rfl rfl rfl rfl rfl rfl rfl | exact z_alloc rfl rfl rfl | exact ob_copy rfl rfl rfl rfl rfl (by first | rfl | assumption | omega | (simp; done) | (simp; omega)) (by first | rfl | assumption | omega | (simp; done) | (simp; omega)) (by first | rfl | assumption | omega | (simp; done) | (simp; omega)) (by first | rfl | assumption | omega | (simp; done) | (simp; omega)) | exact ob_zeros (f := byteA) (z := 0#8) Try.underlying3 rfl rfl rfl rfl rfl rfl (by omega) (by first | rfl | assumption | omega | (simp; done) | (simp; omega)) (by first | omega | (simp; omega) | (simp; done)) (by first | omega | (simp; omega) | (simp; done)) | exact ob_make (f := byteA) (z := 0#8) rfl rfl rfl rfl rfl rfl rfl rfl (by decide) (by decide))); (focus (first | exact want_n | exact want_g rfl (by with_reducible rfl)))) | (apply Ws; (focus (first | exact ob_st rfl rfl rfl (by first | rfl | assumption | omega | (simp; done) | (simp; omega)) (by first | rfl | assumption | omega | (simp; done) | (simp; omega)) rfl (fun _ => rfl) rfl rfl | exact ob_st0 rfl rfl rfl (by first | rfl | assumption | omega | (simp; done) | (simp; omega)) (by first | rfl | assumption | omega | (simp; done) | (simp; omega)) rfl | exact ok_store tabT (d := none) rfl rfl rfl rfl rfl rfl rfl rfl rfl rfl | exact ob_clear (f := byteA) (z := 0#8) rfl rfl rfl rfl (by first | rfl | assumption | omega | (simp; done) | (simp; omega)) (by first | rfl | assumption | omega | (simp; done) | (simp; omega)) (by first | rfl | assumption | omega | (simp; done) | (simp; omega)))); (focus (first | exact want_n | exact want_g rfl (by with_reducible rfl)))) | (refine Wskip (by first | exact want_f rfl (by with_reducible exact b_nt) | exact want_f rfl (by with_reducible exact b_nf) | exact want_t rfl) rfl ?_) | refine Wgt rfl rfl (by first | assumption | omega | exact rfl) ?_ | refine Wgf rfl rfl (by first | assumption | omega | exact rfl) ?_ | (refine Wgb rfl rfl (by with_reducible assumption) ?_) | (refine cb_is _ (by assumption) ?_)))); exact kHid.out) : Q := h ⟨k⟩
theorem wRG {Q R : Prop} (k : R) (h : Hid R → Q := by intro kHid; (repeat (first | (first | refine Wend _ ?_ | refine AW_seq ?_ | refine AW_reg ?_ | refine AW_drw mixed ?_ | refine AW_block ?_ | refine AW_scope ?_ | refine blockA_n ?_ | refine blockA_h ?_ | refine scopeA_n ?_ | refine thenA_r ?_ | refine blockA_r ?_ | refine scopeA_r ?_ | refine thenA_e ?_ | refine scopeA_e ?_ | refine blockA_e rfl ?_ | refine AW_exit ?_ | refine AW_ret ?_ | refine AW_skip ?_ | refine AW_c rfl ?_ | with_reducible refine cb_t ?_ | with_reducible refine cb_f ?_ | with_reducible refine cb_yes (by first | assumption | omega) ?_ | with_reducible refine cb_no (by first | assumption | omega) ?_ | refine And.intro (by decide +kernel) ?_) | (first | (apply Wv; (focus (first | exact step_ok rfl rfl | exact ok_nilc rfl rfl | exact o_idx rfl rfl rfl rfl (by first | assumption | omega | decide) | exact o_idx3 rfl rfl rfl rfl (by first | assumption | omega | decide) | exact o_idx2 rfl rfl rfl rfl rfl (by first | assumption | omega | decide) | exact o_idxr rfl rfl rfl rfl rfl rfl | exact o_lenm rfl rfl rfl | exact o_len rfl rfl rfl | exact o_len0 rfl rfl rfl | exact o_lens rfl rfl rfl | exact o_lent rfl rfl | exact ob_len rfl rfl rfl rfl (by first | rfl | assumption | omega | (simp; done) | (simp; omega)) | exact o_add1 rfl rfl rfl (by omega) | exact o_addn rfl rfl rfl (by omega) | exact o_addc rfl rfl rfl (by omega) (by omega) | exact o_add rfl rfl rfl (by omega) | exact o_sub1 rfl rfl rfl (by omega) | exact o_sub rfl rfl rfl (by omega) | exact o_acall rfl rfl rfl rfl (by assumption) | exact o_convb ⟨_, Try.underlying3⟩ Try.underlying5 rfl rfl | exact o_convu ⟨_, Try.underlying3⟩ Try.underlying71 rfl rfl | exact o_cv32 ⟨_, Try.underlying77⟩ Try.underlying71 rfl rfl | exact o_cvk ⟨_, Try.underlying71⟩ Try.underlying3 rfl rfl | exact o_cv8 ⟨_, Try.underlying5⟩ Try.underlying3 rfl rfl | exact o_convs Try.underlying33 Try.underlying5 Try.underlying9 rfl rfl | exact ob_cutr rfl rfl rfl (by simp) (by decide) | exact ob_cutf rfl rfl rfl rfl rfl rfl (by simp) (by decide) | exact ob_cutfh rfl rfl rfl rfl rfl rfl rfl (by first | assumption | omega) (by simp) (by decide) | exact ok_cut_arr tabT rfl rfl rfl bnd_none (Nat.le_refl _) (by decide) | exact o_cutlh rfl rfl rfl rfl rfl (by omega) (by omega) | exact o_cutl rfl rfl rfl rfl (by omega) | exact o_cuth rfl rfl rfl rfl (by omega) | exact o_cutl3 rfl rfl rfl rfl (by omega) | exact o_cuth3 rfl rfl rfl rfl (by omega) | exact o_cutl2 rfl rfl rfl rfl rfl (by omega) | exact o_cuth2 rfl rfl rfl rfl rfl (by omega) | exact o_cutlh2 rfl rfl rfl rfl rfl rfl rfl (by omega) (by omega) | exact ob_cutl rfl rfl rfl rfl rfl rfl (by first | rfl | assumption | omega | (simp; done) | (simp; omega)) (by first | rfl | assumption | omega | (simp; done) | (simp; omega)) | exact ob_cutlh rfl rfl rfl rfl rfl rfl rfl rfl (by first | rfl | assumption | omega | (simp; done) | (simp; omega)) (by first | rfl | assumption | omega | (simp; done) | (simp; omega)) (by first | rfl | assumption | omega | (simp; done) | (simp; omega)) | exact ob_idx rfl rfl rfl rfl rfl rfl (by first | rfl | assumption | omega | (simp; done) | (simp; omega)) (by first | rfl | assumption | omega | (simp; done) | (simp; omega)) | exact ob_ld rfl rfl rfl (by first | rfl | assumption | omega | (simp; done) | (simp; omega)) (by first | rfl | assumption | omega | (simp; done) | (simp; omega)) rfl rfl | exact e_bld rfl rfl rfl | exact e_bldk rfl rfl | exact z_bld0 rfl rfl rfl rfl rfl | exact z_bld rfl rfl rfl rfl rfl rfl rfl | exact o_mkfn rfl rfl rfl | exact o_xorb rfl rfl rfl)); (focus (first | exact want_n | exact want_g rfl (by with_reducible rfl)))) | (apply Wb; (focus (first | exact o_box rfl rfl rfl rfl | exact ob_app rfl rfl rfl rfl rfl (by first | exact o_many rfl | exact o_one _ _ rfl | exact o_zero rfl) (by first | rfl | assumption | omega | (simp; done) | (simp; omega)) (by first | omega | (simp; omega) | (simp; done)) (by first | omega | (simp; omega) | (simp; done)) | exact oo_app0 rfl rfl rfl rfl rfl (by first | exact o_many rfl | exact o_one _ _ rfl | exact o_zero rfl) (by first | omega | (simp; omega) | (simp; done)) (by first | omega | (simp; omega) | (simp; done)) | exact o_app rfl rfl rfl rfl rfl (by first | exact o_many rfl | exact o_one _ _ rfl | exact o_zero rfl) (by first | omega | (simp; omega) | (simp; done)) (by first | omega | (simp; omega) | (simp; done)) | exact o_appn rfl rfl rfl rfl rfl (by first | exact o_many rfl | exact o_one _ _ rfl | exact o_zero rfl) (by first | omega | (simp; omega) | (simp; done)) (by first | omega | (simp; omega) | (simp; done)) | exact o_app1 rfl rfl rfl rfl rfl (by first | exact o_many rfl | exact o_one _ _ rfl | exact o_zero rfl) (by exact rfl) (by first | omega | (simp; omega) | (simp; done)) (by first | omega | (simp; omega) | (simp; done)) | exact o_app0 rfl rfl rfl rfl rfl (by first | exact o_many rfl | exact o_one _ _ rfl | exact o_zero rfl) (by first | omega | (simp; omega) | (simp; done)) (by first | omega | (simp; omega) | (simp; done)) | exact o_bsl0O rfl rfl rfl | exact z_bsll rfl rfl rfl rfl rfl rfl rfl rfl rfl | exact z_alloc rfl rfl rfl | exact ob_copy rfl rfl rfl rfl rfl (by first | rfl | assumption | omega | (simp; done) | (simp; omega)) (by first | rfl | assumption | omega | (simp; done) | (simp; omega)) (by first | rfl | assumption | omega | (simp; done) | (simp; omega)) (by first | rfl | assumption | omega | (simp; done) | (simp; omega)) | exact ob_zeros (f := byteA) (z := 0#8) Try.underlying3 rfl rfl rfl rfl rfl rfl (by omega) (by first | rfl | assumption | omega | (simp; done) | (simp; omega)) (by first | omega | (simp; omega) | (simp; done)) (by first | omega | (simp; omega) | (simp; done)) | exact ob_make (f := byteA) (z := 0#8) rfl rfl rfl rfl rfl rfl rfl rfl (by decide) (by decide))); (focus (first | exact want_n | exact want_g rfl (by with_reducible rfl)))) | (apply Ws; (focus (first | exact ob_st rfl rfl rfl (by first | rfl | assumption | omega | (simp; done) | (simp; omega)) (by first | rfl | assumption | omega | (simp; done) | (simp; omega)) rfl (fun _ => rfl) rfl rfl | exact ob_st0 rfl rfl rfl (by first | rfl | assumption | omega | (simp; done) | (simp; omega)) (by first | rfl | assumption | omega | (simp; done) | (simp; omega)) rfl | exact ok_store tabT (d := none) rfl rfl rfl rfl rfl rfl rfl rfl rfl rfl | exact ob_clear (f := byteA) (z := 0#8) rfl rfl rfl rfl (by first | rfl | assumption | omega | (simp; done) | (simp; omega)) (by first | rfl | assumption | omega | (simp; done) | (simp; omega)) (by first | rfl | assumption | omega | (simp; done) | (simp; omega)))); (focus (first | exact want_n | exact want_g rfl (by with_reducible rfl)))) | (refine Wskip (by first | exact want_f rfl (by with_reducible exact b_nt) | exact want_f rfl (by with_reducible exact b_nf) | exact want_t rfl) rfl ?_) | refine Wgt rfl rfl (by first | assumption | omega | exact rfl) ?_ | refine Wgf rfl rfl (by first | assumption | omega | exact rfl) ?_ | (refine Wgb rfl rfl (by with_reducible assumption) ?_) | (refine cb_is _ (by assumption) ?_)))); exact kHid.out) : Q := h ⟨k⟩
theorem wSY {Q R : Prop} (k : R) (h : Hid R → Q := by intro kHid; ((first | (first | refine Wend _ ?_ | refine AW_seq ?_ | refine AW_reg ?_ | refine AW_drw mixed ?_ | refine AW_block ?_ | refine AW_scope ?_ | refine thenA_n ?_ | refine blockA_n ?_ | refine blockA_h ?_ | refine scopeA_n ?_ | refine thenA_r ?_ | refine blockA_r ?_ | refine scopeA_r ?_ | refine thenA_e ?_ | refine scopeA_e ?_ | refine blockA_e rfl ?_ | refine AW_exit ?_ | refine AW_ret ?_ | refine AW_skip ?_ | refine AW_c rfl ?_ | with_reducible refine cb_t ?_ | with_reducible refine cb_f ?_ | with_reducible refine cb_yes (by first | assumption | omega) ?_ | with_reducible refine cb_no (by first | assumption | omega) ?_ | refine And.intro (by decide +kernel) ?_) | (first | (apply Wv; (focus (first | exact step_ok rfl rfl | exact ok_nilc rfl rfl | exact o_idx rfl rfl rfl rfl (by first | assumption | omega | decide) | exact o_idx3 rfl rfl rfl rfl (by first | assumption | omega | decide) | exact o_idx2 rfl rfl rfl rfl rfl (by first | assumption | omega | decide) | exact o_idxr rfl rfl rfl rfl rfl rfl | exact o_lenm rfl rfl rfl | exact o_len rfl rfl rfl | exact o_len0 rfl rfl rfl | exact o_lens rfl rfl rfl | exact o_lent rfl rfl | exact ob_len rfl rfl rfl rfl (by first | rfl | assumption | omega | (simp; done) | (simp; omega)) | exact o_add1 rfl rfl rfl (by omega) | exact o_addn rfl rfl rfl (by omega) | exact o_addc rfl rfl rfl (by omega) (by omega) | exact o_add rfl rfl rfl (by omega) | exact o_sub1 rfl rfl rfl (by omega) | exact o_sub rfl rfl rfl (by omega) | exact o_acall rfl rfl rfl rfl (by assumption) | exact o_convb ⟨_, Try.underlying3⟩ Try.underlying5 rfl rfl | exact o_convu ⟨_, Try.underlying3⟩ Try.underlying71 rfl rfl | exact o_cv32 ⟨_, Try.underlying77⟩ Try.underlying71 rfl rfl | exact o_cvk ⟨_, Try.underlying71⟩ Try.underlying3 rfl rfl | exact o_cv8 ⟨_, Try.underlying5⟩ Try.underlying3 rfl rfl | exact o_convs Try.underlying33 Try.underlying5 Try.underlying9 rfl rfl | exact ob_cutr rfl rfl rfl (by simp) (by decide) | exact ob_cutf rfl rfl rfl rfl rfl rfl (by simp) (by decide) | exact ob_cutfh rfl rfl rfl rfl rfl rfl rfl (by first | assumption | omega) (by simp) (by decide) | exact ok_cut_arr tabT rfl rfl rfl bnd_none (Nat.le_refl _) (by decide) | exact o_cutlh rfl rfl rfl rfl rfl (by omega) (by omega) | exact o_cutl rfl rfl rfl rfl (by omega) | exact o_cuth rfl rfl rfl rfl (by omega) | exact o_cutl3 rfl rfl rfl rfl (by omega) | exact o_cuth3 rfl rfl rfl rfl (by omega) | exact o_cutl2 rfl rfl rfl rfl rfl (by omega) | exact o_cuth2 rfl rfl rfl rfl rfl (by omega) | exact o_cutlh2 rfl rfl rfl rfl rfl rfl rfl (by omega) (by omega) | exact ob_cutl rfl rfl rfl rfl rfl rfl (by first | rfl | assumption | omega | (simp; done) | (simp; omega)) (by first | rfl | assumption | omega | (simp; done) | (simp; omega)) | exact ob_cutlh rfl rfl rfl rfl rfl rfl rfl rfl (by first | rfl | assumption | omega | (simp; done) | (simp; omega)) (by first | rfl | assumption | omega | (simp; done) | (simp; omega)) (by first | rfl | assumption | omega | (simp; done) | (simp; omega)) | exact ob_idx rfl rfl rfl rfl rfl rfl (by first | rfl | assumption | omega | (simp; done) | (simp; omega)) (by first | rfl | assumption | omega | (simp; done) | (simp; omega)) | exact ob_ld rfl rfl rfl (by first | rfl | assumption | omega | (simp; done) | (simp; omega)) (by first | rfl | assumption | omega | (simp; done) | (simp; omega)) rfl rfl | exact e_bld rfl rfl rfl | exact e_bldk rfl rfl | exact z_bld0 rfl rfl rfl rfl rfl | exact z_bld rfl rfl rfl rfl rfl rfl rfl | exact o_mkfn rfl rfl rfl | exact o_xorb rfl rfl rfl)); (focus (first | exact want_n | exact want_g rfl (by with_reducible rfl)))) | (apply Wb; (focus (first | exact o_box rfl rfl rfl rfl | exact ob_app rfl rfl rfl rfl rfl (by first | exact o_many rfl | exact o_one _ _ rfl | exact o_zero rfl) (by first | rfl | assumption | omega | (simp; done) | (simp; omega)) (by first | omega | (simp; omega) | (simp; done)) (by first | omega | (simp; omega) | (simp; done)) | exact oo_app0 rfl rfl rfl rfl rfl (by first | exact o_many rfl | exact o_one _ _ rfl | exact o_zero rfl) (by first | omega | (simp; omega) | (simp; done)) (by first | omega | (simp; omega) | (simp; done)) | exact o_app rfl rfl rfl rfl rfl (by first | exact o_many rfl | exact o_one _ _ rfl | exact o_zero rfl) (by first | omega | (simp; omega) | (simp; done)) (by first | omega | (simp; omega) | (simp; done)) | exact o_appn rfl rfl rfl rfl rfl (by first | exact o_many rfl | exact o_one _ _ rfl | exact o_zero rfl) (by first | omega | (simp; omega) | (simp; done)) (by first | omega | (simp; omega) | (simp; done)) | exact o_app1 rfl rfl rfl rfl rfl (by first | exact o_many rfl | exact o_one _ _ rfl | exact o_zero rfl) (by exact rfl) (by first | omega | (simp; omega) | (simp; done)) (by first | omega | (simp; omega) | (simp; done)) | exact o_app0 rfl rfl rfl rfl rfl (by first | exact o_many rfl | exact o_one _ _ rfl | exact o_zero rfl) (by first | omega | (simp; omega) | (simp; done)) (by first | omega | (simp; omega) | (simp; done)) | exact o_bsl0O rfl rfl rfl | exact z_bsll rfl rfl rfl rfl rfl rfl rfl rfl rfl | exact z_alloc rfl rfl rfl | exact ob_copy rfl rfl rfl rfl rfl (by first | rfl | assumption | omega | (simp; done) | (simp; omega)) (by first | rfl | assumption | omega | (simp; done) | (simp; omega)) (by first | rfl | assumption | omega | (simp; done) | (simp; omega)) (by first | rfl | assumption | omega | (simp; done) | (simp; omega)) | exact ob_zeros (f := byteA) (z := 0#8) Try.underlying3 rfl rfl rfl rfl rfl rfl (by omega) (by first | rfl | assumption | omega | (simp; done) | (simp; omega)) (by first | omega | (simp; omega) | (simp; done)) (by first | omega | (simp; omega) | (simp; done)) | exact ob_make (f := byteA) (z := 0#8) rfl rfl rfl rfl rfl rfl rfl rfl (by decide) (by decide))); (focus (first | exact want_n | exact want_g rfl (by with_reducible rfl)))) | (apply Ws; (focus (first | exact ob_st rfl rfl rfl (by first | rfl | assumption | omega | (simp; done) | (simp; omega)) (by first | rfl | assumption | omega | (simp; done) | (simp; omega)) rfl (fun _ => rfl) rfl rfl | exact ob_st0 rfl rfl rfl (by first | rfl | assumption | omega | (simp; done) | (simp; omega)) (by first | rfl | assumption | omega | (simp; done) | (simp; omega)) rfl | exact ok_store tabT (d := none) rfl rfl rfl rfl rfl rfl rfl rfl rfl rfl | exact ob_clear (f := byteA) (z := 0#8) rfl rfl rfl rfl (by first | rfl | assumption | omega | (simp; done) | (simp; omega)) (by first | rfl | assumption | omega | (simp; done) | (simp; omega)) (by first | rfl | assumption | omega | (simp; done) | (simp; omega)))); (focus (first | exact want_n | exact want_g rfl (by with_reducible rfl)))) | (refine Wskip (by first | exact want_f rfl (by with_reducible exact b_nt) | exact want_f rfl (by with_reducible exact b_nf) | exact want_t rfl) rfl ?_) | refine Wgt rfl rfl (by first | assumption | omega | exact rfl) ?_ | refine Wgf rfl rfl (by first | assumption | omega | exact rfl) ?_ | (refine Wgb rfl rfl (by with_reducible assumption) ?_) | (refine cb_is _ (by assumption) ?_)))); exact kHid.out) : Q := h ⟨k⟩
theorem wZ {Q R : Prop} (k : R) (h : Hid R → Q := by intro kHid; (repeat (first | (first | refine Wend _ ?_ | refine AW_seq ?_ | refine AW_reg ?_ | refine AW_drw mixed ?_ | refine AW_block ?_ | refine AW_scope ?_ | refine thenA_n ?_ | refine blockA_n ?_ | refine blockA_h ?_ | refine scopeA_n ?_ | refine thenA_r ?_ | refine blockA_r ?_ | refine scopeA_r ?_ | refine thenA_e ?_ | refine scopeA_e ?_ | refine blockA_e rfl ?_ | refine AW_exit ?_ | refine AW_ret ?_ | refine AW_skip ?_ | refine AW_c rfl ?_ | with_reducible refine cb_t ?_ | with_reducible refine cb_f ?_ | with_reducible refine cb_yes (by first | assumption | omega) ?_ | with_reducible refine cb_no (by first | assumption | omega) ?_ | refine And.intro (by decide +kernel) ?_) | (first | (apply Wv; (focus (first | exact step_ok rfl rfl | exact ok_nilc rfl rfl | exact o_idx rfl rfl rfl rfl (by first | assumption | omega | decide) | exact o_idx3 rfl rfl rfl rfl (by first | assumption | omega | decide) | exact o_idx2 rfl rfl rfl rfl rfl (by first | assumption | omega | decide) | exact o_idxr rfl rfl rfl rfl rfl rfl | exact o_lenm rfl rfl rfl | exact o_len rfl rfl rfl | exact o_len0 rfl rfl rfl | exact o_lens rfl rfl rfl | exact o_lent rfl rfl | exact ob_len rfl rfl rfl rfl (by first | rfl | assumption | omega | (simp; done) | (simp; omega)) | exact o_add1 rfl rfl rfl (by omega) | exact o_addn rfl rfl rfl (by omega) | exact o_addc rfl rfl rfl (by omega) (by omega) | exact o_add rfl rfl rfl (by omega) | exact o_sub1 rfl rfl rfl (by omega) | exact o_sub rfl rfl rfl (by omega) | exact o_acall rfl rfl rfl rfl (by assumption) | exact o_convb ⟨_, Try.underlying3⟩ Try.underlying5 rfl rfl | exact o_convu ⟨_, Try.underlying3⟩ Try.underlying71 rfl rfl | exact o_cv32 ⟨_, Try.underlying77⟩ Try.underlying71 rfl rfl | exact o_cvk ⟨_, Try.underlying71⟩ Try.underlying3 rfl rfl | exact o_cv8 ⟨_, Try.underlying5⟩ Try.underlying3 rfl rfl | exact o_convs Try.underlying33 Try.underlying5 Try.underlying9 rfl rfl | exact ob_cutr rfl rfl rfl (by simp) (by decide) | exact ob_cutf rfl rfl rfl rfl rfl rfl (by simp) (by decide) | exact ob_cutfh rfl rfl rfl rfl rfl rfl rfl (by first | assumption | omega) (by simp) (by decide) | exact ok_cut_arr tabT rfl rfl rfl bnd_none (Nat.le_refl _) (by decide) | exact o_cutlh rfl rfl rfl rfl rfl (by omega) (by omega) | exact o_cutl rfl rfl rfl rfl (by omega) | exact o_cuth rfl rfl rfl rfl (by omega) | exact o_cutl3 rfl rfl rfl rfl (by omega) | exact o_cuth3 rfl rfl rfl rfl (by omega) | exact o_cutl2 rfl rfl rfl rfl rfl (by omega) | exact o_cuth2 rfl rfl rfl rfl rfl (by omega) | exact o_cutlh2 rfl rfl rfl rfl rfl rfl rfl (by omega) (by omega) | exact ob_cutl rfl rfl rfl rfl rfl rfl (by first | rfl | assumption | omega | (simp; done) | (simp; omega)) (by first | rfl | assumption | omega | (simp; done) | (simp; omega)) | exact ob_cutlh rfl rfl rfl rfl rfl rfl rfl rfl (by first | rfl | assumption | omega | (simp; done) | (simp; omega)) (by first | rfl | assumption | omega | (simp; done) | (simp; omega)) (by first | rfl | assumption | omega | (simp; done) | (simp; omega)) | exact ob_idx rfl rfl rfl rfl rfl rfl (by first | rfl | assumption | omega | (simp; done) | (simp; omega)) (by first | rfl | assumption | omega | (simp; done) | (simp; omega)) | exact ob_ld rfl rfl rfl (by first | rfl | assumption | omega | (simp; done) | (simp; omega)) (by first | rfl | assumption | omega | (simp; done) | (simp; omega)) rfl rfl | exact e_bld rfl rfl rfl | exact e_bldk rfl rfl | exact z_bld0 rfl rfl rfl rfl rfl | exact z_bld rfl rfl rfl rfl rfl rfl rfl | exact o_mkfn rfl rfl rfl | exact o_xorb rfl rfl rfl)); (focus (first | exact want_n | exact want_g rfl (by with_reducible rfl)))) | (apply Wb; (focus (first | exact o_box rfl rfl rfl rfl | exact ob_app rfl rfl rfl rfl rfl (by first | exact o_many rfl | exact o_one _ _ rfl | exact o_zero rfl) (by first | rfl | assumption | omega | (simp; done) | (simp; omega)) (by first | omega | (simp; omega) | (simp; done)) (by first | omega | (simp; omega) | (simp; done)) | exact oo_app0 rfl rfl rfl rfl rfl (by first | exact o_many rfl | exact o_one _ _ rfl | exact o_zero rfl) (by first | omega | (simp; omega) | (simp; done)) (by first | omega | (simp; omega) | (simp; done)) | exact o_app rfl rfl rfl rfl rfl (by first | exact o_many rfl | exact o_one _ _ rfl | exact o_zero rfl) (by first | omega | (simp; omega) | (simp; done)) (by first | omega | (simp; omega) | (simp; done)) | exact o_appn rfl rfl rfl rfl rfl (by first | exact o_many rfl | exact o_one _ _ rfl | exact o_zero rfl) (by first | omega | (simp; omega) | (simp; done)) (by first | omega | (simp; omega) | (simp; done)) | exact o_app1 rfl rfl rfl rfl rfl (by first | exact o_many rfl | exact o_one _ _ rfl | exact o_zero rfl) (by exact rfl) (by first | omega | (simp; omega) | (simp; done)) (by first | omega | (simp; omega) | (simp; done)) | exact o_app0 rfl rfl rfl rfl rfl (by first | exact o_many rfl | exact o_one _ _ rfl | exact o_zero rfl) (by first | omega | (simp; omega) | (simp; done)) (by first | omega | (simp; omega) | (simp; done)) | exact o_bsl0O rfl rfl rfl | exact z_alloc rfl rfl rfl | exact ob_copy rfl rfl rfl rfl rfl (by first | rfl | assumption | omega | (simp; done) | (simp; omega)) (by first | rfl | assumption | omega | (simp; done) | (simp; omega)) (by first | rfl | assumption | omega | (simp; done) | (simp; omega)) (by first | rfl | assumption | omega | (simp; done) | (simp; omega)) | exact ob_zeros (f := byteA) (z := 0#8) Try.underlying3 rfl rfl rfl rfl rfl rfl (by omega) (by first | rfl | assumption | omega | (simp; done) | (simp; omega)) (by first | omega | (simp; omega) | (simp; done)) (by first | omega | (simp; omega) | (simp; done)) | exact ob_make (f := byteA) (z := 0#8) rfl rfl rfl rfl rfl rfl rfl rfl (by decide) (by decide))); (focus (first | exact want_n | exact want_g rfl (by with_reducible rfl)))) | (apply Ws; (focus (first | exact ob_st rfl rfl rfl (by first | rfl | assumption | omega | (simp; done) | (simp; omega)) (by first | rfl | assumption | omega | (simp; done) | (simp; omega)) rfl (fun _ => rfl) rfl rfl | exact ob_st0 rfl rfl rfl (by first | rfl | assumption | omega | (simp; done) | (simp; omega)) (by first | rfl | assumption | omega | (simp; done) | (simp; omega)) rfl | exact ok_store tabT (d := none) rfl rfl rfl rfl rfl rfl rfl rfl rfl rfl | exact ob_clear (f := byteA) (z := 0#8) rfl rfl rfl rfl (by first | rfl | assumption | omega | (simp; done) | (simp; omega)) (by first | rfl | assumption | omega | (simp; done) | (simp; omega)) (by first | rfl | assumption | omega | (simp; done) | (simp; omega)))); (focus (first | exact want_n | exact want_g rfl (by with_reducible rfl)))) | (refine Wskip (by first | exact want_f rfl (by with_reducible exact b_nt) | exact want_f rfl (by with_reducible exact b_nf) | exact want_t rfl) rfl ?_) | refine Wgt rfl rfl (by first | assumption | omega | exact rfl) ?_ | refine Wgf rfl rfl (by first | assumption | omega | exact rfl) ?_ | (refine Wgb rfl rfl (by with_reducible assumption) ?_) | (refine cb_is _ (by assumption) ?_)))); exact kHid.out) : Q := h ⟨k⟩
abbrev bxO (xs : List (BitVec 8)) : List (Nat × Bx) := [(1000, .own 5 1 (xs.map byteA))]
abbrev rwO (xs : List (BitVec 8)) : AV := .own 1000 1 xs.length .row
attribute [local irreducible] OpOK AWops AW CondB Go2 AFn thenA inBlockA noGotoA orderOk wantedA
set_option maxRecDepth 100000 in
set_option maxHeartbeats 4000000 in
theorem c_text (xs s : List (BitVec 8)) (hx : xs.length ≤ 1000000000) (hs : s.length ≤ 1000000000) :
    CFn Try.prog 70 [rwO xs, bytesA s] (bxO xs) (rwO (xs ++ [BitVec.ofInt 8 (s.length : Nat)] ++ s)) (bxO (xs ++ [BitVec.ofInt 8 (s.length : Nat)] ++ s)) := by
  refine CFn_intro Try.func70 rfl Try.ntmps70 rfl (by simp) [_] rfl fun E hE => ?_; have hnt : (!true) = false := rfl; have hnf : (!false) = true := rfl
  refine wY ?_
  exact finc ⟨⟨(by repeat' (first | exact True.intro | rfl | apply And.intro)), rfl⟩, rc_of rfl rfl rfl, trivial⟩
set_option maxRecDepth 100000 in
set_option maxHeartbeats 4000000 in
theorem c_reftext0 (xs s : List (BitVec 8)) (n : Nat) (hx : xs.length ≤ 1000000000) (hs : s.length ≤ 1000000000) (hn : n ≤ s.length) :
    CFn Try.prog 46 [rwO xs, intA n, bytesA s] (bxO xs) (rwO (xs ++ [BitVec.ofInt 8 (n : Nat)] ++ s.take n)) (bxO (xs ++ [BitVec.ofInt 8 (n : Nat)] ++ s.take n)) := by
  refine CFn_intro Try.func46 rfl Try.ntmps46 rfl (by simp) [_] rfl fun E hE => ?_; have hnt : (!true) = false := rfl; have hnf : (!false) = true := rfl
  refine wY ?_
  exact finc ⟨⟨(by repeat' (first | exact True.intro | rfl | apply And.intro)), rfl⟩, rc_of rfl rfl rfl, trivial⟩
theorem c_reftext (xs s : List (BitVec 8)) (n : Int) (hx : xs.length ≤ 1000000000) (hs : s.length ≤ 1000000000) (h0 : 0 ≤ n) (hn : n ≤ (s.length : Nat)) :
    CFn Try.prog 46 [rwO xs, intA n, bytesA s] (bxO xs) (rwO (xs ++ [BitVec.ofInt 8 ((s.take n.toNat).length : Nat)] ++ s.take n.toNat)) (bxO (xs ++ [BitVec.ofInt 8 ((s.take n.toNat).length : Nat)] ++ s.take n.toNat)) := by
  obtain ⟨m, rfl⟩ : ∃ m : Nat, n = (m : Int) := ⟨n.toNat, by omega⟩
  rw [Int.toNat_natCast, List.length_take, Nat.min_eq_left (by omega)]
  exact c_reftext0 xs s m hx hs (by omega)
set_option maxRecDepth 100000 in
set_option maxHeartbeats 4000000 in
theorem c_csum (xs : List (BitVec 8)) : CFn Try.prog 27 [rwO xs] (bxO xs) (bytesA (leBytes ((sumL xs).setWidth 64) 4)) (bxO xs) := by
  refine CFn_intro Try.func27 rfl Try.ntmps27 rfl (by simp) [_] rfl fun E hE => ?_; have hnt : (!true) = false := rfl; have hnf : (!false) = true := rfl
  have d0 := ccall Try.func58 (c_sum xs) (by decide +kernel) (by decide +kernel)
  have d1 := acall Try.func57 (a_putnil ((sumL xs).setWidth 64) 4 (by omega) (by omega)) (by decide +kernel) (by decide +kernel)
  refine wY ?_
  (apply Wc; (focus (exact o_ccall [(1000, 1000)] d0 rfl rfl rfl rfl (by repeat (first | exact .nil | refine .cons (.inl ⟨rfl, rfl⟩) ?_ | refine .cons (.inr ⟨rfl, fun _ => Wk.tok⟩) ?_)) (by repeat' (first | exact True.intro | rfl | apply And.intro)) (by repeat' (first | exact True.intro | rfl | apply And.intro)) rfl rfl rfl)); (focus (first | exact want_n | exact want_g rfl (by with_reducible rfl))))
  refine wY ?_
  exact finc ⟨⟨(by repeat' (first | exact True.intro | rfl | apply And.intro)), rfl⟩, rc_sl rfl, trivial⟩
end Go.Proofs.Ytcmdhpinelnclaa

namespace Go.Proofs.Ytcmdhpinelnclaa
open Go Go.RowKit
set_option linter.unusedVariables false
set_option linter.unusedSimpArgs false
set_option maxRecDepth 100000

theorem Go2.frozB {E : Env} {nt : Nat} {T : List (Nat × AV)} {H : List (Nat × Bx)} (g : Nat) {x : AV} (hg : look g H = some (.var x)) : Go2 E nt ⟨T, H⟩ ⟨T, (g, .froz x) :: H⟩ := fun B a w r => by
  have e : St.h ⟨T, (g, .froz x) :: H⟩ = upd (St.h ⟨T, H⟩) g (.froz x) := look_cons _ _ _
  exact ⟨B, by rw [e]; exact r.froz hg⟩
/-! ### the bytes of what a node has -/
def tx (s : List (BitVec 8)) : List (BitVec 8) := [BitVec.ofInt 8 (s.length : Nat)] ++ s
theorem tx_len (s : List (BitVec 8)) : (tx s).length = 1 + s.length := by simp [tx]; omega
def kyS (k : Key) : List (BitVec 8) := k.b.toList.take k.n.toNat
def vlS (k : Vl) : List (BitVec 8) := k.b.toList.take k.n.toNat
def entB (e : Ent) : List (BitVec 8) := tx (kyS e.key) ++ tx (vlS e.val)
def kidB (i : Int) : List (BitVec 8) := leBytes (BitVec.ofInt 64 i) 4
def pivB (k : Key) : List (BitVec 8) := tx (kyS k)
def restB (m : Msg) : List (BitVec 8) := if m.kind = 1 then tx (vlS m.val) else if m.kind = 3 then leBytes m.add 8 else []
def msgB (m : Msg) : List (BitVec 8) := [BitVec.ofInt 8 m.kind] ++ leBytes m.seq 8 ++ tx (kyS m.key) ++ restB m
def bodyB (n : Nd) : List (BitVec 8) := n.es.flatMap entB ++ n.ks.flatMap kidB ++ n.ps.flatMap pivB ++ n.ms.flatMap msgB
def KyR (k : Key) : Prop := 0 ≤ k.n ∧ k.n ≤ 8
def VlR (k : Vl) : Prop := 0 ≤ k.n ∧ k.n ≤ 16
structure NdR (n : Nd) : Prop where
  es : ∀ e ∈ n.es, KyR e.key ∧ VlR e.val
  ps : ∀ k ∈ n.ps, KyR k
  ms : ∀ m ∈ n.ms, KyR m.key ∧ VlR m.val
  le : n.es.length ≤ 100000
  lk : n.ks.length ≤ 100000
  lp : n.ps.length ≤ 100000
  lm : n.ms.length ≤ 100000
theorem kyS_len {k : Key} (h : KyR k) : (kyS k).length = k.n.toNat ∧ (kyS k).length ≤ 8 := by
  obtain ⟨h1, h2⟩ := h
  unfold kyS
  rw [List.length_take, Vector.length_toList]
  omega
theorem vlS_len {k : Vl} (h : VlR k) : (vlS k).length = k.n.toNat ∧ (vlS k).length ≤ 16 := by
  obtain ⟨h1, h2⟩ := h
  unfold vlS
  rw [List.length_take, Vector.length_toList]
  omega
theorem entB_len {e : Ent} (h : KyR e.key ∧ VlR e.val) : (entB e).length ≤ 40 := by
  unfold entB; rw [List.length_append, tx_len, tx_len]; have := (kyS_len h.1).2; have := (vlS_len h.2).2; omega
theorem kidB_len (i : Int) : (kidB i).length = 4 := leBytes_length _ _
theorem pivB_len {k : Key} (h : KyR k) : (pivB k).length ≤ 40 := by unfold pivB; rw [tx_len]; have := (kyS_len h).2; omega
theorem restB_len {m : Msg} (h : VlR m.val) : (restB m).length ≤ 17 := by
  unfold restB
  split
  · rw [tx_len]; have := (vlS_len h).2; omega
  · split
    · rw [leBytes_length]; omega
    · simp
theorem msgB_len {m : Msg} (h : KyR m.key ∧ VlR m.val) : (msgB m).length ≤ 40 := by
  unfold msgB; have := (kyS_len h.1).2; have := restB_len h.2
  simp only [List.length_append, tx_len, leBytes_length, List.length_singleton]; omega
/-- behind the first j of them -/
def fl {α : Type} (f : α → List (BitVec 8)) (xs : List (BitVec 8)) (l : List α) (j : Nat) : List (BitVec 8) := xs ++ (l.take j).flatMap f
theorem fl_zero {α : Type} (f : α → List (BitVec 8)) (xs : List (BitVec 8)) (l : List α) : fl f xs l 0 = xs := by simp [fl]
theorem fl_end {α : Type} (f : α → List (BitVec 8)) (xs : List (BitVec 8)) (l : List α) : fl f xs l l.length = xs ++ l.flatMap f := by simp [fl]
theorem fl_snoc {α : Type} (f : α → List (BitVec 8)) (xs : List (BitVec 8)) (l : List α) (j : Nat) (h : j < l.length) : fl f xs l (j + 1) = fl f xs l j ++ f l[j] := by
  unfold fl
  rw [← List.take_append_getElem h, List.flatMap_append, List.append_assoc]
  simp
theorem fl_len {α : Type} (f : α → List (BitVec 8)) (xs : List (BitVec 8)) (l : List α) (hb : ∀ a ∈ l, (f a).length ≤ 40) (j : Nat) : (fl f xs l j).length ≤ xs.length + 40 * l.length := by
  unfold fl
  rw [List.length_append]
  have h1 : ∀ m : List α, (∀ a ∈ m, (f a).length ≤ 40) → (m.flatMap f).length ≤ 40 * m.length := by
    intro m
    induction m with
    | nil => simp
    | cons a m ih =>
      intro h
      rw [List.flatMap_cons, List.length_append, List.length_cons]
      have := h a List.mem_cons_self
      have := ih (fun b hb => h b (List.mem_cons_of_mem _ hb))
      omega
  have h2 := h1 (l.take j) (fun a ha => hb a (List.mem_of_mem_take ha))
  have h3 : (l.take j).length ≤ l.length := by rw [List.length_take]; omega
  omega
theorem msgB_split (ys : List (BitVec 8)) (m : Msg) : ys ++ msgB m = ys ++ [BitVec.ofInt 8 m.kind] ++ leBytes m.seq 8 ++ [BitVec.ofInt 8 ((kyS m.key).length : Nat)] ++ kyS m.key ++ restB m := by
  unfold msgB tx; simp only [List.append_assoc]
theorem entB_split (ys : List (BitVec 8)) (e : Ent) : ys ++ entB e = ys ++ [BitVec.ofInt 8 ((kyS e.key).length : Nat)] ++ kyS e.key ++ [BitVec.ofInt 8 ((vlS e.val).length : Nat)] ++ vlS e.val := by
  unfold entB tx; simp only [List.append_assoc]
theorem pivB_split (ys : List (BitVec 8)) (k : Key) : ys ++ pivB k = ys ++ [BitVec.ofInt 8 ((kyS k).length : Nat)] ++ kyS k := by
  unfold pivB tx; simp only [List.append_assoc]
attribute [local irreducible] OpOK AWops AW CondB Go2 AFn thenA inBlockA noGotoA orderOk wantedA
set_option maxRecDepth 100000 in
set_option maxHeartbeats 8000000 in
theorem c_cput (xs : List (BitVec 8)) (n : Nd) (hx : xs.length ≤ 1000) (hn : NdR n) :
    CFn Try.prog 45 [rwO xs, n.av] (bxO xs) (rwO (xs ++ bodyB n)) (bxO (xs ++ bodyB n)) := by
  obtain ⟨leaf, es, ks, ps, ms⟩ := n
  obtain ⟨hes, hps, hms, hle, hlk, hlp, hlm⟩ := hn
  dsimp only at hes hps hms hle hlk hlp hlm
  have e0 : xs ++ bodyB ⟨leaf, es, ks, ps, ms⟩ = fl msgB (fl pivB (fl kidB (fl entB xs es es.length) ks ks.length) ps ps.length) ms ms.length := by
    rw [fl_end, fl_end, fl_end, fl_end]; unfold bodyB; simp only [List.append_assoc]
  rw [e0]
  have b1 := fl_len entB xs es (fun e he => entB_len (hes e he))
  generalize hX1 : fl entB xs es es.length = X1
  have b1' : X1.length ≤ 1000 + 40 * 100000 := by have := b1 es.length; rw [hX1] at this; omega
  have b2 := fl_len kidB X1 ks (fun e he => by rw [kidB_len]; omega)
  generalize hX2 : fl kidB X1 ks ks.length = X2
  have b2' : X2.length ≤ 1000 + 80 * 100000 := by have := b2 ks.length; rw [hX2] at this; omega
  have b3 := fl_len pivB X2 ps (fun e he => pivB_len (hps e he))
  generalize hX3 : fl pivB X2 ps ps.length = X3
  have b3' : X3.length ≤ 1000 + 120 * 100000 := by have := b3 ps.length; rw [hX3] at this; omega
  have b4 := fl_len msgB X3 ms (fun e he => msgB_len (hms e he))
  clear e0
  refine CFn_intro Try.func45 rfl Try.ntmps45 rfl (by simp) [_] rfl fun E hE => ?_; have hnt : (!true) = false := rfl; have hnf : (!false) = true := rfl
  refine wY ?_
  refine AW_loopI (fun j : Nat => ⟨[(0, rwO (fl entB xs es j)), (3, .ptr 3 0 []), (14, entsA es), (15, .v (.int .i64 es.length)), (16, .v (.int .i64 (j : Nat)))], [(3, .var (Nd.av ⟨leaf, es, ks, ps, ms⟩)), (1000, .own 5 1 ((fl entB xs es j).map byteA))]⟩) (fun j => j ≤ es.length) (fun j => es.length - j) 0 (Nat.zero_le _) (by rw [fl_zero]; (refine Go2.sub ⟨?_, ?_, ?_⟩ <;> repeat' (first | exact True.intro | rfl | apply And.intro))) (fun j hj => ?_)
  by_cases hlt : j < es.length
  · have hlt' : (j : Int) < (es.length : Nat) := by omega
    have hr := hes es[j] (List.getElem_mem hlt)
    have hb := b1 j
    have hk := kyS_len hr.1
    have hv := vlS_len hr.2
    obtain ⟨⟨q1, q2⟩, q3, q4⟩ := hr
    have d0 := c_text (fl entB xs es j) (kyS es[j].key) (by omega) (by omega)
    have d1 := c_text (fl entB xs es j ++ [BitVec.ofInt 8 ((kyS es[j].key).length : Nat)] ++ kyS es[j].key) (vlS es[j].val) (by simp only [List.length_append, List.length_singleton]; omega) (by omega)
    have hs := fl_snoc entB xs es j hlt
    rw [entB_split] at hs
    have d2 := ccall Try.func70 (d0) (by decide +kernel) (by decide +kernel)
    have d3 := ccall Try.func70 (d1) (by decide +kernel) (by decide +kernel)
    refine wRG ?_
    refine thenA_n ?_
    refine wRG ?_
    refine thenA_n ?_
    refine wRG ?_
    refine thenA_n ?_
    refine AW_go (Go2.frozB 6 rfl) ?_
    refine wY ?_
    (apply WcN [1000] [1000]; (focus (exact o_ccall [(1000, 1000)] d2 rfl rfl rfl rfl (by repeat (first | exact .nil | refine .cons (.inl ⟨rfl, rfl⟩) ?_ | refine .cons (.inr ⟨rfl, fun _ => Wk.tok⟩) ?_)) (by repeat' (first | exact True.intro | rfl | apply And.intro)) (by repeat' (first | exact True.intro | rfl | apply And.intro)) rfl rfl rfl)); (focus (exact rfl)); (focus (exact rfl)); (focus (first | exact want_n | exact want_g rfl (by with_reducible rfl))))
    refine wY ?_
    (apply WcN [1000] [1000]; (focus (exact o_ccall [(1000, 1000)] d3 rfl rfl rfl rfl (by repeat (first | exact .nil | refine .cons (.inl ⟨rfl, rfl⟩) ?_ | refine .cons (.inr ⟨rfl, fun _ => Wk.tok⟩) ?_)) (by repeat' (first | exact True.intro | rfl | apply And.intro)) (by repeat' (first | exact True.intro | rfl | apply And.intro)) rfl rfl rfl)); (focus (exact rfl)); (focus (exact rfl)); (focus (first | exact want_n | exact want_g rfl (by with_reducible rfl))))
    refine wY ?_
    refine ⟨j + 1, by omega, by omega, ?_⟩
    rw [hs]
    (refine Go2.sub ⟨?_, ?_, ?_⟩ <;> repeat' (first | exact True.intro | rfl | apply And.intro))
  · obtain rfl : j = es.length := by omega
    have hlt' : ¬ (es.length : Int) < (es.length : Nat) := by omega
    rw [hX1]
    refine wY ?_
    refine AW_loopI (fun j : Nat => ⟨[(0, rwO (fl kidB X1 ks j)), (3, .ptr 3 0 []), (37, intsA ks), (38, .v (.int .i64 ks.length)), (39, .v (.int .i64 (j : Nat)))], [(3, .var (Nd.av ⟨leaf, es, ks, ps, ms⟩)), (1000, .own 5 1 ((fl kidB X1 ks j).map byteA))]⟩) (fun j => j ≤ ks.length) (fun j => ks.length - j) 0 (Nat.zero_le _) (by rw [fl_zero]; (refine Go2.sub ⟨?_, ?_, ?_⟩ <;> repeat' (first | exact True.intro | rfl | apply And.intro))) (fun j hj => ?_)
    by_cases hlt : j < ks.length
    · have hlt' : (j : Int) < (ks.length : Nat) := by omega
      have hb := b2 j
      have d0 := c_put (fl kidB X1 ks j) (BitVec.ofInt 64 ks[j]) 4 (by omega) (by omega) (by omega)
      have hs : fl kidB X1 ks (j + 1) = fl kidB X1 ks j ++ leBytes (BitVec.ofInt 64 ks[j]) 4 := fl_snoc kidB X1 ks j hlt
      have d2 := ccall Try.func57 (d0) (by decide +kernel) (by decide +kernel)
      refine wY ?_
      (apply WcN [1000] [1000]; (focus (exact o_ccall [(1000, 1000)] d2 rfl rfl rfl rfl (by repeat (first | exact .nil | refine .cons (.inl ⟨rfl, rfl⟩) ?_ | refine .cons (.inr ⟨rfl, fun _ => Wk.tok⟩) ?_)) (by repeat' (first | exact True.intro | rfl | apply And.intro)) (by repeat' (first | exact True.intro | rfl | apply And.intro)) rfl rfl rfl)); (focus (exact rfl)); (focus (exact rfl)); (focus (first | exact want_n | exact want_g rfl (by with_reducible rfl))))
      refine wY ?_
      refine ⟨j + 1, by omega, by omega, ?_⟩
      rw [hs]
      (refine Go2.sub ⟨?_, ?_, ?_⟩ <;> repeat' (first | exact True.intro | rfl | apply And.intro))
    · obtain rfl : j = ks.length := by omega
      have hlt' : ¬ (ks.length : Int) < (ks.length : Nat) := by omega
      rw [hX2]
      refine wY ?_
      refine AW_loopI (fun j : Nat => ⟨[(0, rwO (fl pivB X2 ps j)), (3, .ptr 3 0 []), (49, keysA ps), (50, .v (.int .i64 ps.length)), (51, .v (.int .i64 (j : Nat)))], [(3, .var (Nd.av ⟨leaf, es, ks, ps, ms⟩)), (1000, .own 5 1 ((fl pivB X2 ps j).map byteA))]⟩) (fun j => j ≤ ps.length) (fun j => ps.length - j) 0 (Nat.zero_le _) (by rw [fl_zero]; (refine Go2.sub ⟨?_, ?_, ?_⟩ <;> repeat' (first | exact True.intro | rfl | apply And.intro))) (fun j hj => ?_)
      by_cases hlt : j < ps.length
      · have hlt' : (j : Int) < (ps.length : Nat) := by omega
        have hr := hps ps[j] (List.getElem_mem hlt)
        have hb := b3 j
        have hk := kyS_len hr
        obtain ⟨q1, q2⟩ := hr
        have d0 := c_text (fl pivB X2 ps j) (kyS ps[j]) (by omega) (by omega)
        have hs := fl_snoc pivB X2 ps j hlt
        rw [pivB_split] at hs
        have d2 := ccall Try.func70 (d0) (by decide +kernel) (by decide +kernel)
        refine wRG ?_
        refine thenA_n ?_
        refine wRG ?_
        refine thenA_n ?_
        refine wRG ?_
        refine thenA_n ?_
        refine AW_go (Go2.frozB 10 rfl) ?_
        refine wY ?_
        (apply WcN [1000] [1000]; (focus (exact o_ccall [(1000, 1000)] d2 rfl rfl rfl rfl (by repeat (first | exact .nil | refine .cons (.inl ⟨rfl, rfl⟩) ?_ | refine .cons (.inr ⟨rfl, fun _ => Wk.tok⟩) ?_)) (by repeat' (first | exact True.intro | rfl | apply And.intro)) (by repeat' (first | exact True.intro | rfl | apply And.intro)) rfl rfl rfl)); (focus (exact rfl)); (focus (exact rfl)); (focus (first | exact want_n | exact want_g rfl (by with_reducible rfl))))
        refine wY ?_
        refine ⟨j + 1, by omega, by omega, ?_⟩
        rw [hs]
        (refine Go2.sub ⟨?_, ?_, ?_⟩ <;> repeat' (first | exact True.intro | rfl | apply And.intro))
      · obtain rfl : j = ps.length := by omega
        have hlt' : ¬ (ps.length : Int) < (ps.length : Nat) := by omega
        rw [hX3]
        refine wY ?_
        refine AW_loopI (fun j : Nat => ⟨[(0, rwO (fl msgB X3 ms j)), (3, .ptr 3 0 []), (63, msgsA ms), (64, .v (.int .i64 ms.length)), (65, .v (.int .i64 (j : Nat)))], [(3, .var (Nd.av ⟨leaf, es, ks, ps, ms⟩)), (1000, .own 5 1 ((fl msgB X3 ms j).map byteA))]⟩) (fun j => j ≤ ms.length) (fun j => ms.length - j) 0 (Nat.zero_le _) (by rw [fl_zero]; (refine Go2.sub ⟨?_, ?_, ?_⟩ <;> repeat' (first | exact True.intro | rfl | apply And.intro))) (fun j hj => ?_)
        by_cases hlt : j < ms.length
        · have hlt' : (j : Int) < (ms.length : Nat) := by omega
          have hr := hms ms[j] (List.getElem_mem hlt)
          have hb := b4 j
          have hk := kyS_len hr.1
          have hv := vlS_len hr.2
          obtain ⟨⟨q1, q2⟩, q3, q4⟩ := hr
          have d0 := c_put (fl msgB X3 ms j ++ [BitVec.ofInt 8 ms[j].kind]) ms[j].seq 8 (by simp only [List.length_append, List.length_singleton]; omega) (by omega) (by omega)
          have d1 := c_text (fl msgB X3 ms j ++ [BitVec.ofInt 8 ms[j].kind] ++ leBytes ms[j].seq 8) (kyS ms[j].key) (by simp only [List.length_append, List.length_singleton, leBytes_length]; omega) (by omega)
          have hs := fl_snoc msgB X3 ms j hlt
          rw [msgB_split] at hs
          obtain ⟨Y, hY⟩ : ∃ Y, fl msgB X3 ms j ++ [BitVec.ofInt 8 ms[j].kind] ++ leBytes ms[j].seq 8 ++ [BitVec.ofInt 8 ((kyS ms[j].key).length : Nat)] ++ kyS ms[j].key = Y := ⟨_, rfl⟩
          have hYl : Y.length ≤ 17000000 := by rw [← hY]; simp only [List.length_append, List.length_singleton, leBytes_length]; omega
          rw [hY] at d1 hs
          clear hY
          have d2 := ccall Try.func57 (d0) (by decide +kernel) (by decide +kernel)
          have d3 := ccall Try.func70 (d1) (by decide +kernel) (by decide +kernel)
          refine wRG ?_
          refine thenA_n ?_
          refine wRG ?_
          refine thenA_n ?_
          refine wRG ?_
          refine thenA_n ?_
          refine AW_go (Go2.frozB 12 rfl) ?_
          by_cases k1 : ms[j].kind = 1
          · have d4 := c_text Y (vlS ms[j].val) (by omega) (by omega)
            have d5 := ccall Try.func70 (d4) (by decide +kernel) (by decide +kernel)
            refine wY ?_
            (apply WcN [1000] [1000]; (focus (exact o_ccall [(1000, 1000)] d2 rfl rfl rfl rfl (by repeat (first | exact .nil | refine .cons (.inl ⟨rfl, rfl⟩) ?_ | refine .cons (.inr ⟨rfl, fun _ => Wk.tok⟩) ?_)) (by repeat' (first | exact True.intro | rfl | apply And.intro)) (by repeat' (first | exact True.intro | rfl | apply And.intro)) rfl rfl rfl)); (focus (exact rfl)); (focus (exact rfl)); (focus (first | exact want_n | exact want_g rfl (by with_reducible rfl))))
            refine wY ?_
            (apply WcN [1000] [1000]; (focus (exact o_ccall [(1000, 1000)] d3 rfl rfl rfl rfl (by repeat (first | exact .nil | refine .cons (.inl ⟨rfl, rfl⟩) ?_ | refine .cons (.inr ⟨rfl, fun _ => Wk.tok⟩) ?_)) (by repeat' (first | exact True.intro | rfl | apply And.intro)) (by repeat' (first | exact True.intro | rfl | apply And.intro)) rfl rfl rfl)); (focus (exact rfl)); (focus (exact rfl)); (focus (first | exact want_n | exact want_g rfl (by with_reducible rfl))))
            refine wY ?_
            (apply WcN [1000] [1000]; (focus (exact o_ccall [(1000, 1000)] d5 rfl rfl rfl rfl (by repeat (first | exact .nil | refine .cons (.inl ⟨rfl, rfl⟩) ?_ | refine .cons (.inr ⟨rfl, fun _ => Wk.tok⟩) ?_)) (by repeat' (first | exact True.intro | rfl | apply And.intro)) (by repeat' (first | exact True.intro | rfl | apply And.intro)) rfl rfl rfl)); (focus (exact rfl)); (focus (exact rfl)); (focus (first | exact want_n | exact want_g rfl (by with_reducible rfl))))
            refine wY ?_
            refine ⟨j + 1, by omega, by omega, ?_⟩
            have he : restB ms[j] = [BitVec.ofInt 8 ((vlS ms[j].val).length : Nat)] ++ vlS ms[j].val := by unfold restB tx; rw [if_pos k1]
            rw [hs, he, ← List.append_assoc Y]
            (refine Go2.sub ⟨?_, ?_, ?_⟩ <;> repeat' (first | exact True.intro | rfl | apply And.intro))
          · by_cases k3 : ms[j].kind = 3
            · have d4 := c_put Y ms[j].add 8 (by omega) (by omega) (by omega)
              have d5 := ccall Try.func57 (d4) (by decide +kernel) (by decide +kernel)
              refine wY ?_
              (apply WcN [1000] [1000]; (focus (exact o_ccall [(1000, 1000)] d2 rfl rfl rfl rfl (by repeat (first | exact .nil | refine .cons (.inl ⟨rfl, rfl⟩) ?_ | refine .cons (.inr ⟨rfl, fun _ => Wk.tok⟩) ?_)) (by repeat' (first | exact True.intro | rfl | apply And.intro)) (by repeat' (first | exact True.intro | rfl | apply And.intro)) rfl rfl rfl)); (focus (exact rfl)); (focus (exact rfl)); (focus (first | exact want_n | exact want_g rfl (by with_reducible rfl))))
              refine wY ?_
              (apply WcN [1000] [1000]; (focus (exact o_ccall [(1000, 1000)] d3 rfl rfl rfl rfl (by repeat (first | exact .nil | refine .cons (.inl ⟨rfl, rfl⟩) ?_ | refine .cons (.inr ⟨rfl, fun _ => Wk.tok⟩) ?_)) (by repeat' (first | exact True.intro | rfl | apply And.intro)) (by repeat' (first | exact True.intro | rfl | apply And.intro)) rfl rfl rfl)); (focus (exact rfl)); (focus (exact rfl)); (focus (first | exact want_n | exact want_g rfl (by with_reducible rfl))))
              refine wY ?_
              (apply WcN [1000] [1000]; (focus (exact o_ccall [(1000, 1000)] d5 rfl rfl rfl rfl (by repeat (first | exact .nil | refine .cons (.inl ⟨rfl, rfl⟩) ?_ | refine .cons (.inr ⟨rfl, fun _ => Wk.tok⟩) ?_)) (by repeat' (first | exact True.intro | rfl | apply And.intro)) (by repeat' (first | exact True.intro | rfl | apply And.intro)) rfl rfl rfl)); (focus (exact rfl)); (focus (exact rfl)); (focus (first | exact want_n | exact want_g rfl (by with_reducible rfl))))
              refine wY ?_
              refine ⟨j + 1, by omega, by omega, ?_⟩
              have he : restB ms[j] = leBytes ms[j].add 8 := by unfold restB; rw [if_neg k1, if_pos k3]
              rw [hs, he]
              (refine Go2.sub ⟨?_, ?_, ?_⟩ <;> repeat' (first | exact True.intro | rfl | apply And.intro))
            · refine wY ?_
              (apply WcN [1000] [1000]; (focus (exact o_ccall [(1000, 1000)] d2 rfl rfl rfl rfl (by repeat (first | exact .nil | refine .cons (.inl ⟨rfl, rfl⟩) ?_ | refine .cons (.inr ⟨rfl, fun _ => Wk.tok⟩) ?_)) (by repeat' (first | exact True.intro | rfl | apply And.intro)) (by repeat' (first | exact True.intro | rfl | apply And.intro)) rfl rfl rfl)); (focus (exact rfl)); (focus (exact rfl)); (focus (first | exact want_n | exact want_g rfl (by with_reducible rfl))))
              refine wY ?_
              (apply WcN [1000] [1000]; (focus (exact o_ccall [(1000, 1000)] d3 rfl rfl rfl rfl (by repeat (first | exact .nil | refine .cons (.inl ⟨rfl, rfl⟩) ?_ | refine .cons (.inr ⟨rfl, fun _ => Wk.tok⟩) ?_)) (by repeat' (first | exact True.intro | rfl | apply And.intro)) (by repeat' (first | exact True.intro | rfl | apply And.intro)) rfl rfl rfl)); (focus (exact rfl)); (focus (exact rfl)); (focus (first | exact want_n | exact want_g rfl (by with_reducible rfl))))
              refine wY ?_
              refine ⟨j + 1, by omega, by omega, ?_⟩
              have he : restB ms[j] = [] := by unfold restB; rw [if_neg k1, if_neg k3]
              rw [hs, he, List.append_nil]
              (refine Go2.sub ⟨?_, ?_, ?_⟩ <;> repeat' (first | exact True.intro | rfl | apply And.intro))
        · obtain rfl : j = ms.length := by omega
          have hlt' : ¬ (ms.length : Int) < (ms.length : Nat) := by omega
          refine wY ?_
          exact finc ⟨⟨(by repeat' (first | exact True.intro | rfl | apply And.intro)), rfl⟩, rc_of rfl rfl rfl, trivial⟩
end Go.Proofs.Ytcmdhpinelnclaa

namespace Go.Proofs.Ytcmdhpinelnclaa
open Go Go.RowKit
set_option linter.unusedVariables false
set_option linter.unusedSimpArgs false
set_option maxRecDepth 100000

/-- what a node that fits is -/
structure FitL (n : Nd) : Prop where
  leaf : n.leaf = true
  ks : n.ks = []
  ps : n.ps = []
  ms : n.ms = []
  ok : ∀ e ∈ n.es, e.key.ok = true ∧ e.val.ok = true
  sum : eSum n.es ≤ 248
structure FitI (n : Nd) : Prop where
  leaf : n.leaf = false
  es : n.es = []
  k2 : 2 ≤ n.ks.length
  k4 : n.ks.length ≤ 4
  kp : n.ps.length + 1 = n.ks.length
  ks : ∀ k ∈ n.ks, 1 ≤ k ∧ k < 256
  ps : ∀ k ∈ n.ps, k.ok = true
  ms : ∀ m ∈ n.ms, m.ok = true
  sum : bSum n.ms ≤ 205
theorem entsOkB_is {l : List Ent} (h : entsOkB keyCmp l = true) : EntsOk keyCmp l := Classical.byContradiction fun hn => by rw [entsOkB_false hn] at h; cases h
theorem msgsOkB_is {l : List Msg} (h : msgsOkB keyCmp l = true) : MsgsOk keyCmp l := Classical.byContradiction fun hn => by rw [msgsOkB_false hn] at h; cases h
theorem kidsFrom_mem {all : List Int} : ∀ {l : List Int} {i : Nat}, kidsFrom all i l = true → ∀ k ∈ l, 1 ≤ k ∧ k < 256
  | [], _, _, k, h => by cases h
  | y :: l, i, h, k, hk => by
    simp only [kidsFrom, Bool.and_eq_true, decide_eq_true_eq] at h
    rcases List.mem_cons.1 hk with rfl | hk
    · exact ⟨h.1.1.1, h.1.1.2⟩
    · exact kidsFrom_mem h.2 k hk
theorem risesBy_mem {cmp : Key → Key → Int} : ∀ {l : List Key} {p : Option Key}, risesBy cmp p l = true → ∀ k ∈ l, k.ok = true
  | [], _, _, k, h => by cases h
  | y :: l, p, h, k, hk => by
    simp only [risesBy, Bool.and_eq_true] at h
    rcases List.mem_cons.1 hk with rfl | hk
    · exact h.1.1
    · exact risesBy_mem h.2 k hk
theorem fits_is {n : Nd} (h : nodeFits n = true) : FitL n ∨ FitI n := by
  unfold nodeFits nodeOk ndBytes at h
  rw [Bool.and_eq_true, decide_eq_true_eq] at h
  obtain ⟨h1, h2⟩ := h
  cases hl : n.leaf with
  | true =>
    rw [hl, if_pos rfl] at h1
    rw [hl, if_pos rfl, if_pos rfl] at h2
    unfold leafOk at h1
    rw [Bool.and_eq_true, decide_eq_true_eq] at h1
    have h3 := entsOkB_is h1.1
    refine .inl ⟨hl, List.eq_nil_of_length_eq_zero (by omega), List.eq_nil_of_length_eq_zero (by omega), List.eq_nil_of_length_eq_zero (by omega), fun e he => ?_, h2⟩
    obtain ⟨j, hj, rfl⟩ := List.getElem_of_mem he
    exact ⟨(h3 j hj).1, (h3 j hj).2.1⟩
  | false =>
    rw [hl, if_neg (by simp)] at h1
    rw [hl, if_neg (by simp), if_neg (by simp)] at h2
    unfold innerOk fanOkBy at h1
    simp only [Bool.and_eq_true, decide_eq_true_eq] at h1
    obtain ⟨⟨h1, ⟨⟨⟨⟨a1, a2⟩, a3⟩, a4⟩, a5⟩⟩, h3⟩ := h1
    have h4 := msgsOkB_is h3
    refine .inr ⟨hl, List.eq_nil_of_length_eq_zero h1, a1, a2, a3, kidsFrom_mem a4, risesBy_mem a5, fun m hm => ?_, h2⟩
    obtain ⟨j, hj, rfl⟩ := List.getElem_of_mem hm
    exact (h4 j hj).1
theorem KyR.of {k : Key} (h : k.ok = true) : KyR k := Key.n_le h
theorem VlR.of {k : Vl} (h : k.ok = true) : VlR k := Vl.n_le h
theorem len_flat {α : Type} (f : α → List (BitVec 8)) (sz : α → Int) : ∀ (l : List α), (∀ a ∈ l, ((f a).length : Int) = sz a) → ((l.flatMap f).length : Int) = (l.map sz).sum
  | [], _ => rfl
  | a :: l, h => by
    rw [List.flatMap_cons, List.length_append, List.map_cons, List.sum_cons, Int.natCast_add, h a List.mem_cons_self, len_flat f sz l (fun b hb => h b (List.mem_cons_of_mem _ hb))]
theorem entB_size {e : Ent} (h : e.key.ok = true ∧ e.val.ok = true) : ((entB e).length : Int) = e.size := by
  have h1 := kyS_len (KyR.of h.1)
  have h2 := vlS_len (VlR.of h.2)
  have h3 := (KyR.of h.1).1
  have h4 := (VlR.of h.2).1
  unfold entB Ent.size
  rw [List.length_append, tx_len, tx_len]
  omega
theorem msgB_size {m : Msg} (h : m.ok = true) : ((msgB m).length : Int) = m.size := by
  obtain ⟨a1, a2, a3, a4, a5, a6⟩ := Msg.spec h
  have h1 := kyS_len (KyR.of a3)
  have h2 := vlS_len (VlR.of a4)
  have h3 := (KyR.of a3).1
  have h4 := (VlR.of a4).1
  unfold msgB Msg.size restB
  rw [if_pos h]
  simp only [List.length_append, List.length_singleton, leBytes_length, tx_len]
  by_cases k1 : m.kind = 1
  · rw [if_pos k1, if_pos k1, tx_len]; omega
  · rw [if_neg k1, if_neg k1]
    by_cases k3 : m.kind = 3
    · rw [if_pos k3, if_pos k3, leBytes_length]; omega
    · rw [if_neg k3, if_neg k3]; simp; omega
theorem pivB_le : ∀ (l : List Key), (∀ k ∈ l, k.ok = true) → (l.flatMap pivB).length ≤ 9 * l.length
  | [], _ => by simp
  | k :: l, h => by
    rw [List.flatMap_cons, List.length_append, List.length_cons]
    have h1 := pivB_le l (fun b hb => h b (List.mem_cons_of_mem _ hb))
    have h2 := kyS_len (KyR.of (h k List.mem_cons_self))
    unfold pivB at *
    rw [tx_len]
    omega
theorem kidB_le : ∀ (l : List Int), (l.flatMap kidB).length = 4 * l.length
  | [] => by simp
  | k :: l => by
    rw [List.flatMap_cons, List.length_append, List.length_cons, kidB_len, kidB_le l]; omega
/-- there is room for a node that fits -/
theorem body_len {n : Nd} (h : nodeFits n = true) : (bodyB n).length ≤ 248 := by
  rcases fits_is h with f | f
  · unfold bodyB
    rw [f.ks, f.ps, f.ms]
    have := len_flat entB Ent.size n.es (fun e he => entB_size (f.ok e he))
    have h2 := f.sum
    unfold eSum at h2
    simp only [List.flatMap_nil, List.append_nil]
    omega
  · unfold bodyB
    rw [f.es]
    have h1 := len_flat msgB Msg.size n.ms (fun m hm => msgB_size (f.ms m hm))
    have h2 := f.sum
    have h3 := pivB_le n.ps f.ps
    have h4 := kidB_le n.ks
    have h5 := f.kp
    have h6 := f.k4
    unfold bSum at h2
    simp only [List.flatMap_nil, List.nil_append, List.length_append]
    omega
theorem len_sum : ∀ (l : List Ent), (∀ e ∈ l, e.key.ok = true ∧ e.val.ok = true) → (l.length : Int) ≤ eSum l
  | [], _ => by simp [eSum]
  | e :: l, h => by
    have h1 := len_sum l (fun b hb => h b (List.mem_cons_of_mem _ hb))
    have h2 := (KyR.of (h e List.mem_cons_self).1).1
    have h3 := (VlR.of (h e List.mem_cons_self).2).1
    have e1 : eSum (e :: l) = e.size + eSum l := by unfold eSum; simp
    rw [e1, List.length_cons]
    unfold Ent.size
    omega
theorem len_sumM : ∀ (l : List Msg), (∀ m ∈ l, m.ok = true) → (l.length : Int) ≤ bSum l
  | [], _ => by simp [bSum]
  | m :: l, h => by
    have h1 := len_sumM l (fun b hb => h b (List.mem_cons_of_mem _ hb))
    have h2 := msgB_size (h m List.mem_cons_self)
    have h3 : 1 ≤ (msgB m).length := by unfold msgB; simp only [List.length_append, List.length_singleton]; omega
    have e1 : bSum (m :: l) = m.size + bSum l := by unfold bSum; simp
    rw [e1, List.length_cons]
    omega
theorem fits_ndr {n : Nd} (h : nodeFits n = true) : NdR n := by
  rcases fits_is h with f | f
  · have := len_sum n.es f.ok
    have := f.sum
    exact ⟨fun e he => ⟨KyR.of (f.ok e he).1, VlR.of (f.ok e he).2⟩, by rw [f.ps]; simp, by rw [f.ms]; simp, by omega, by rw [f.ks]; simp, by rw [f.ps]; simp, by rw [f.ms]; simp⟩
  · have h1 := len_sumM n.ms f.ms
    have h2 := f.sum
    have h3 := f.k4
    have h4 := f.kp
    exact ⟨by rw [f.es]; simp, fun k hk => KyR.of (f.ps k hk), fun m hm => ⟨KyR.of (Msg.spec (f.ms m hm)).2.2.1, VlR.of (Msg.spec (f.ms m hm)).2.2.2.1⟩, by rw [f.es]; simp, by omega, by omega, by omega⟩
/-! ### a node's block -/
def manyB (n : Nd) : Nat := if n.leaf = true then n.es.length else n.ks.length
def headB (n : Nd) : List (BitVec 8) := [if n.leaf = true then 1#8 else 2#8, BitVec.ofInt 8 (manyB n : Nat), BitVec.ofInt 8 (n.ms.length : Nat), 0#8]
/-- with no sum yet -/
def rawB (n : Nd) : List (BitVec 8) := headB n ++ List.replicate 4 0#8 ++ bodyB n ++ List.replicate (248 - (bodyB n).length) 0#8
def sum4 (b : List (BitVec 8)) : List (BitVec 8) := leBytes ((sumL b).setWidth 64) 4
theorem sum4_len (b : List (BitVec 8)) : (sum4 b).length = 4 := leBytes_length _ _
def encB (n : Nd) : List (BitVec 8) := put4 (rawB n) 4 (sum4 (rawB n))
theorem headB_len (n : Nd) : (headB n).length = 4 := rfl
theorem rawB_len {n : Nd} (h : nodeFits n = true) : (rawB n).length = 256 := by
  have := body_len h
  unfold rawB
  simp only [List.length_append, headB_len, List.length_replicate]
  omega
theorem encB_len {n : Nd} (h : nodeFits n = true) : (encB n).length = 256 := by
  unfold encB
  rw [put4_len _ _ _ (by rw [sum4_len, rawB_len h]; omega), rawB_len h]
end Go.Proofs.Ytcmdhpinelnclaa

namespace Go.Proofs.Ytcmdhpinelnclaa
open Go Go.RowKit
set_option linter.unusedVariables false
set_option linter.unusedSimpArgs false
set_option maxRecDepth 100000

/-! ### plain law -/
/-- where a reader stands, and whether it went beyond -/
structure Rst where
  pos : Nat
  bad : Bool
deriving DecidableEq
/-- how many bytes come -/
def cnt (b : List (BitVec 8)) (i : Nat) : Nat := (b.getD i 0#8).toNat
theorem cnt_le (b : List (BitVec 8)) (i : Nat) : cnt b i ≤ 255 := by unfold cnt; have := (b.getD i 0#8).isLt; omega
theorem numAt_one (b : List (BitVec 8)) (i : Nat) : (numAt b i 1).toInt = (cnt b i : Int) := by
  have key : numAt b i 1 = (b.getD i 0#8).setWidth 64 := by
    unfold numAt
    by_cases h : i + 1 ≤ b.length
    · rw [if_pos h]
      have e : seg b i 1 = [b[i]'(by omega)] := by
        unfold seg
        rw [List.drop_eq_getElem_cons (by omega)]
        rfl
      rw [e, List.getD_eq_getElem?_getD, List.getElem?_eq_getElem (by omega)]
      simp [leNum]
    · rw [if_neg h, List.getD_eq_getElem?_getD, List.getElem?_eq_none (by omega)]
      rfl
  rw [key, BitVec.toInt_eq_toNat_cond, BitVec.toNat_setWidth]
  unfold cnt
  have := (b.getD i 0#8).isLt
  split <;> omega
def stN (b : List (BitVec 8)) (s : Rst) (w : Nat) : Rst := ⟨s.pos + w, s.bad || !decide (s.pos + w ≤ b.length)⟩
def takeOk (b : List (BitVec 8)) (i m : Nat) : Bool := decide (cnt b i ≤ m) && decide (i + 1 + cnt b i ≤ b.length)
def takeS (b : List (BitVec 8)) (s : Rst) (m : Nat) : List (BitVec 8) := if takeOk b s.pos m = true then seg b (s.pos + 1) (cnt b s.pos) else []
def stT (b : List (BitVec 8)) (s : Rst) (m : Nat) : Rst := if takeOk b s.pos m = true then ⟨s.pos + 1 + cnt b s.pos, s.bad⟩ else ⟨s.pos + 1, true⟩
theorem seg_length {b : List (BitVec 8)} {i n : Nat} (h : i + n ≤ b.length) : (seg b i n).length = n := by unfold seg; rw [List.length_take, List.length_drop]; omega
theorem seg_cut (b : List (BitVec 8)) (i n : Nat) : (b.take (i + n)).drop i = seg b i n := by unfold seg; rw [List.drop_take]; congr 1; omega
/-! ### readings -/
def rdB (b : List (BitVec 8)) (p : Nat) (bad : Bool) : AV := .agg 3 [bytesA b, intA (p : Nat), boolA bad]
abbrev rdA (b : List (BitVec 8)) (s : Rst) : AV := rdB b s.pos s.bad
abbrev bxR (b : List (BitVec 8)) (s : Rst) : List (Nat × Bx) := [(1000, .var (rdA b s))]
theorem padded_list (m : Nat) (l : List (BitVec 8)) (h : l.length ≤ m) : (padded m l).toList = l ++ List.replicate (m - l.length) 0#8 := by
  apply List.ext_getElem?
  intro i
  by_cases hi : i < m
  · have e1 : (padded m l).toList[i]? = some (l.getD i 0#8) := by
      rw [List.getElem?_eq_getElem (by simp [hi])]
      simp [padded_get m l i hi]
    rw [e1, List.getD_eq_getElem?_getD]
    by_cases hl : i < l.length
    · rw [List.getElem?_append_left hl, List.getElem?_eq_getElem hl]; rfl
    · rw [List.getElem?_append_right (by omega), List.getElem?_eq_none (by omega), List.getElem?_replicate, if_pos (by omega)]; rfl
  · rw [List.getElem?_eq_none (by simp; omega), List.getElem?_eq_none (by simp; omega)]
section
variable {E : Env} {nt : Nat} {ops : Array Oper} {T : Nat → Option AV} {H : Hp} {d : Option Nat} {ty : TypeId} {pos : String} {af : Array Edge} {gd : Option (Nat × Bool)}
/-- bytes copied into a key's, a value's array -/
theorem ob_copyK {x y : Operand} {t tx e : TypeId} {bytes : Nat} {ea : Bool} {g : Nat} {tok : Option Nat} {ys : List (BitVec 8)} (hd : dOk nt d = true) (hs : tabT.ti t = some (.sl e 1 bytes ea)) (hx : evalO T x = some (.seg g 1 1 [1] 8 8)) (hy : evalO T y = some (.sl tok 1 (ys.map byteA))) (hg : H g = some (.var Key.zero.av)) (hl : ys.length ≤ 8) :
    OpOK Try.prog E nt ops ⟨d, .call { callee := .builtin .copy, args := #[x, y], argTypes := #[t, tx] }, ty, pos, af, gd⟩ T H [g] ⟨.v (.int .i64 (ys.length : Nat)), [(g, .var (Key.av ⟨0, padded 8 ys⟩))]⟩ := by
  have hmin : min (ys.map byteA).length 8 = ys.length := by rw [List.length_map]; omega
  have h := ok_copy tabT (E := E) (nt := nt) (ops := ops) (T := T) (H := H) (d := d) (ty := ty) (pos := pos) (af := af) (gd := gd) (x := x) (y := y) (t := t) (tx := tx) (g := g) (off := 1) (len := 8) (cap := 8) (m := 8) (p := [1]) (z := Key.zero.av) (z' := Key.av ⟨0, padded 8 ys⟩) (xs := (List.replicate 8 0#8).map byteA) hd hs hx hy srcn_sl hg rfl rfl (by simp) (by
    rw [hmin]
    show some _ = some _
    congr 1
    unfold Key.av vecA
    rw [padded_list 8 ys hl]
    simp only [List.map_append, List.map_replicate, List.drop_replicate, List.take_of_length_le (Nat.le_of_eq (List.length_map byteA))]
    rfl)
  rwa [hmin] at h
theorem ob_copyV {x y : Operand} {t tx e : TypeId} {bytes : Nat} {ea : Bool} {g : Nat} {tok : Option Nat} {ys : List (BitVec 8)} (hd : dOk nt d = true) (hs : tabT.ti t = some (.sl e 1 bytes ea)) (hx : evalO T x = some (.seg g 1 1 [1] 16 16)) (hy : evalO T y = some (.sl tok 1 (ys.map byteA))) (hg : H g = some (.var Vl.zero.av)) (hl : ys.length ≤ 16) :
    OpOK Try.prog E nt ops ⟨d, .call { callee := .builtin .copy, args := #[x, y], argTypes := #[t, tx] }, ty, pos, af, gd⟩ T H [g] ⟨.v (.int .i64 (ys.length : Nat)), [(g, .var (Vl.av ⟨0, padded 16 ys⟩))]⟩ := by
  have hmin : min (ys.map byteA).length 16 = ys.length := by rw [List.length_map]; omega
  have h := ok_copy tabT (E := E) (nt := nt) (ops := ops) (T := T) (H := H) (d := d) (ty := ty) (pos := pos) (af := af) (gd := gd) (x := x) (y := y) (t := t) (tx := tx) (g := g) (off := 1) (len := 16) (cap := 16) (m := 16) (p := [1]) (z := Vl.zero.av) (z' := Vl.av ⟨0, padded 16 ys⟩) (xs := (List.replicate 16 0#8).map byteA) hd hs hx hy srcn_sl hg rfl rfl (by simp) (by
    rw [hmin]
    show some _ = some _
    congr 1
    unfold Vl.av vecA
    rw [padded_list 16 ys hl]
    simp only [List.map_append, List.map_replicate, List.drop_replicate, List.take_of_length_le (Nat.le_of_eq (List.length_map byteA))]
    rfl)
  rwa [hmin] at h
end
attribute [local irreducible] OpOK AWops AW CondB Go2 AFn thenA inBlockA noGotoA orderOk wantedA
set_option maxRecDepth 100000 in
set_option maxHeartbeats 4000000 in
theorem c_rnum (b : List (BitVec 8)) (s : Rst) (w : Nat) (hb : b.length ≤ 1000000) (hs : s.pos ≤ 1000000) (h1 : 1 ≤ w) (h8 : w ≤ 8) :
    CFn Try.prog 60 [.ptr 1000 0 [], intA (w : Nat)] (bxR b s) (u64A (numAt b s.pos w)) (bxR b (stN b s w)) := by
  obtain ⟨p, bad⟩ := s
  have c0 := a_num b p w h1 h8 (by omega) (by dsimp only at hs; omega)
  dsimp only at hs
  unfold stN bxR rdA
  dsimp only
  cases bad
  · by_cases h : p + w ≤ b.length
    · rw [decide_eq_true h] at c0 ⊢
      refine CFn_intro Try.func60 rfl Try.ntmps60 rfl (by simp) [_] rfl fun E hE => ?_; have hnt : (!true) = false := rfl; have hnf : (!false) = true := rfl
      have d0 := acall Try.func84 (c0) (by decide +kernel) (by decide +kernel)
      refine wY ?_
      exact finc ⟨⟨(by repeat' (first | exact True.intro | rfl | apply And.intro)), rfl⟩, rc_of rfl rfl rfl, trivial⟩
    · rw [decide_eq_false h] at c0 ⊢
      refine CFn_intro Try.func60 rfl Try.ntmps60 rfl (by simp) [_] rfl fun E hE => ?_; have hnt : (!true) = false := rfl; have hnf : (!false) = true := rfl
      have d0 := acall Try.func84 (c0) (by decide +kernel) (by decide +kernel)
      refine wY ?_
      exact finc ⟨⟨(by repeat' (first | exact True.intro | rfl | apply And.intro)), rfl⟩, rc_of rfl rfl rfl, trivial⟩
  · refine CFn_intro Try.func60 rfl Try.ntmps60 rfl (by simp) [_] rfl fun E hE => ?_; have hnt : (!true) = false := rfl; have hnf : (!false) = true := rfl
    have d0 := acall Try.func84 (c0) (by decide +kernel) (by decide +kernel)
    refine wY ?_
    exact finc ⟨⟨(by repeat' (first | exact True.intro | rfl | apply And.intro)), rfl⟩, rc_of rfl rfl rfl, trivial⟩
set_option maxRecDepth 100000 in
set_option maxHeartbeats 4000000 in
theorem c_rbytesK (b : List (BitVec 8)) (s : Rst) (hb : b.length ≤ 1000000) (hs : s.pos ≤ 900000) :
    CFn Try.prog 61 [.ptr 1000 0 [], .seg 1001 1 1 [1] 8 8] (bxR b s ++ [(1001, .var Key.zero.av)]) (intA ((takeS b s 8).length : Nat)) (bxR b (stT b s 8) ++ [(1001, .var (Key.av ⟨0, padded 8 (takeS b s 8)⟩))]) := by
  have c0 := c_rnum b s 1 hb (by omega) (by omega) (by omega)
  have hc := numAt_one b s.pos
  have hcl := cnt_le b s.pos
  have hz : Key.av ⟨0, padded 8 []⟩ = Key.zero.av := by unfold Key.av vecA Key.zero; rw [padded_list 8 [] (by simp)]; rfl
  obtain ⟨p, bad⟩ := s
  unfold stN bxR rdA at c0
  unfold takeS stT takeOk bxR rdA
  dsimp only at hs hc hcl c0 ⊢
  by_cases k1 : cnt b p ≤ 8
  · by_cases k2 : p + 1 + cnt b p ≤ b.length
    · rw [decide_eq_true k1, decide_eq_true k2]
      simp only [Bool.and_self, if_true]
      have hlt : p + 1 ≤ b.length := by omega
      rw [decide_eq_true hlt] at c0
      simp only [Bool.not_true, Bool.or_false] at c0
      have hl := seg_length (b := b) (i := p + 1) (n := cnt b p) k2
      have hcut := seg_cut b (p + 1) (cnt b p)
      have g1 : ¬ ((8 : Nat) : Int) < (cnt b p : Nat) := by omega
      have g2 : ¬ (b.length : Int) - ((p + 1 : Nat) : Int) < (cnt b p : Nat) := by omega
      rw [hl]
      refine CFn_intro Try.func61 rfl Try.ntmps61 rfl (by simp) [_] rfl fun E hE => ?_; have hnt : (!true) = false := rfl; have hnf : (!false) = true := rfl
      have d0 := ccall Try.func60 (c0) (by decide +kernel) (by decide +kernel)
      refine wY ?_
      (apply WcN [1000] [1000]; (focus (exact o_ccall [(1000, 1000)] d0 rfl rfl rfl rfl (by repeat (first | exact .nil | refine .cons (.inl ⟨rfl, rfl⟩) ?_ | refine .cons (.inr ⟨rfl, fun _ => Wk.tok⟩) ?_)) (by repeat' (first | exact True.intro | rfl | apply And.intro)) (by repeat' (first | exact True.intro | rfl | apply And.intro)) rfl rfl rfl)); (focus (exact rfl)); (focus (exact rfl)); (focus (first | exact want_n | exact want_g rfl (by with_reducible rfl))))
      refine wSY ?_
      rw [hc]
      refine wY ?_
      rw [hcut]
      (apply Wb; (focus (exact ob_copyK rfl rfl rfl rfl rfl (by omega))); (focus (first | exact want_n | exact want_g rfl (by with_reducible rfl))))
      refine wY ?_
      exact finc ⟨⟨(by repeat' (first | exact True.intro | rfl | apply And.intro)), rfl⟩, rc_of rfl rfl rfl, trivial⟩
    · rw [decide_eq_true k1, decide_eq_false k2]
      simp only [Bool.and_false, Bool.false_eq_true, if_false]
      rw [hz]
      have g1 : ¬ ((8 : Nat) : Int) < (cnt b p : Nat) := by omega
      have g2 : (b.length : Int) - ((p + 1 : Nat) : Int) < (cnt b p : Nat) := by omega
      refine CFn_intro Try.func61 rfl Try.ntmps61 rfl (by simp) [_] rfl fun E hE => ?_; have hnt : (!true) = false := rfl; have hnf : (!false) = true := rfl
      have d0 := ccall Try.func60 (c0) (by decide +kernel) (by decide +kernel)
      refine wY ?_
      (apply WcN [1000] [1000]; (focus (exact o_ccall [(1000, 1000)] d0 rfl rfl rfl rfl (by repeat (first | exact .nil | refine .cons (.inl ⟨rfl, rfl⟩) ?_ | refine .cons (.inr ⟨rfl, fun _ => Wk.tok⟩) ?_)) (by repeat' (first | exact True.intro | rfl | apply And.intro)) (by repeat' (first | exact True.intro | rfl | apply And.intro)) rfl rfl rfl)); (focus (exact rfl)); (focus (exact rfl)); (focus (first | exact want_n | exact want_g rfl (by with_reducible rfl))))
      refine wSY ?_
      rw [hc]
      refine wY ?_
      exact finc ⟨⟨(by repeat' (first | exact True.intro | rfl | apply And.intro)), rfl⟩, rc_of rfl rfl rfl, trivial⟩
  · rw [decide_eq_false k1]
    simp only [Bool.false_and, Bool.false_eq_true, if_false]
    rw [hz]
    have g1 : ((8 : Nat) : Int) < (cnt b p : Nat) := by omega
    refine CFn_intro Try.func61 rfl Try.ntmps61 rfl (by simp) [_] rfl fun E hE => ?_; have hnt : (!true) = false := rfl; have hnf : (!false) = true := rfl
    have d0 := ccall Try.func60 (c0) (by decide +kernel) (by decide +kernel)
    refine wY ?_
    (apply WcN [1000] [1000]; (focus (exact o_ccall [(1000, 1000)] d0 rfl rfl rfl rfl (by repeat (first | exact .nil | refine .cons (.inl ⟨rfl, rfl⟩) ?_ | refine .cons (.inr ⟨rfl, fun _ => Wk.tok⟩) ?_)) (by repeat' (first | exact True.intro | rfl | apply And.intro)) (by repeat' (first | exact True.intro | rfl | apply And.intro)) rfl rfl rfl)); (focus (exact rfl)); (focus (exact rfl)); (focus (first | exact want_n | exact want_g rfl (by with_reducible rfl))))
    refine wSY ?_
    rw [hc]
    refine wY ?_
    exact finc ⟨⟨(by repeat' (first | exact True.intro | rfl | apply And.intro)), rfl⟩, rc_of rfl rfl rfl, trivial⟩
set_option maxRecDepth 100000 in
set_option maxHeartbeats 4000000 in
theorem c_rbytesV (b : List (BitVec 8)) (s : Rst) (hb : b.length ≤ 1000000) (hs : s.pos ≤ 900000) :
    CFn Try.prog 61 [.ptr 1000 0 [], .seg 1001 1 1 [1] 16 16] (bxR b s ++ [(1001, .var Vl.zero.av)]) (intA ((takeS b s 16).length : Nat)) (bxR b (stT b s 16) ++ [(1001, .var (Vl.av ⟨0, padded 16 (takeS b s 16)⟩))]) := by
  have c0 := c_rnum b s 1 hb (by omega) (by omega) (by omega)
  have hc := numAt_one b s.pos
  have hcl := cnt_le b s.pos
  have hz : Vl.av ⟨0, padded 16 []⟩ = Vl.zero.av := by unfold Vl.av vecA Vl.zero; rw [padded_list 16 [] (by simp)]; rfl
  obtain ⟨p, bad⟩ := s
  unfold stN bxR rdA at c0
  unfold takeS stT takeOk bxR rdA
  dsimp only at hs hc hcl c0 ⊢
  by_cases k1 : cnt b p ≤ 16
  · by_cases k2 : p + 1 + cnt b p ≤ b.length
    · rw [decide_eq_true k1, decide_eq_true k2]
      simp only [Bool.and_self, if_true]
      have hlt : p + 1 ≤ b.length := by omega
      rw [decide_eq_true hlt] at c0
      simp only [Bool.not_true, Bool.or_false] at c0
      have hl := seg_length (b := b) (i := p + 1) (n := cnt b p) k2
      have hcut := seg_cut b (p + 1) (cnt b p)
      have g1 : ¬ ((16 : Nat) : Int) < (cnt b p : Nat) := by omega
      have g2 : ¬ (b.length : Int) - ((p + 1 : Nat) : Int) < (cnt b p : Nat) := by omega
      rw [hl]
      refine CFn_intro Try.func61 rfl Try.ntmps61 rfl (by simp) [_] rfl fun E hE => ?_; have hnt : (!true) = false := rfl; have hnf : (!false) = true := rfl
      have d0 := ccall Try.func60 (c0) (by decide +kernel) (by decide +kernel)
      refine wY ?_
      (apply WcN [1000] [1000]; (focus (exact o_ccall [(1000, 1000)] d0 rfl rfl rfl rfl (by repeat (first | exact .nil | refine .cons (.inl ⟨rfl, rfl⟩) ?_ | refine .cons (.inr ⟨rfl, fun _ => Wk.tok⟩) ?_)) (by repeat' (first | exact True.intro | rfl | apply And.intro)) (by repeat' (first | exact True.intro | rfl | apply And.intro)) rfl rfl rfl)); (focus (exact rfl)); (focus (exact rfl)); (focus (first | exact want_n | exact want_g rfl (by with_reducible rfl))))
      refine wSY ?_
      rw [hc]
      refine wY ?_
      rw [hcut]
      (apply Wb; (focus (exact ob_copyV rfl rfl rfl rfl rfl (by omega))); (focus (first | exact want_n | exact want_g rfl (by with_reducible rfl))))
      refine wY ?_
      exact finc ⟨⟨(by repeat' (first | exact True.intro | rfl | apply And.intro)), rfl⟩, rc_of rfl rfl rfl, trivial⟩
    · rw [decide_eq_true k1, decide_eq_false k2]
      simp only [Bool.and_false, Bool.false_eq_true, if_false]
      rw [hz]
      have g1 : ¬ ((16 : Nat) : Int) < (cnt b p : Nat) := by omega
      have g2 : (b.length : Int) - ((p + 1 : Nat) : Int) < (cnt b p : Nat) := by omega
      refine CFn_intro Try.func61 rfl Try.ntmps61 rfl (by simp) [_] rfl fun E hE => ?_; have hnt : (!true) = false := rfl; have hnf : (!false) = true := rfl
      have d0 := ccall Try.func60 (c0) (by decide +kernel) (by decide +kernel)
      refine wY ?_
      (apply WcN [1000] [1000]; (focus (exact o_ccall [(1000, 1000)] d0 rfl rfl rfl rfl (by repeat (first | exact .nil | refine .cons (.inl ⟨rfl, rfl⟩) ?_ | refine .cons (.inr ⟨rfl, fun _ => Wk.tok⟩) ?_)) (by repeat' (first | exact True.intro | rfl | apply And.intro)) (by repeat' (first | exact True.intro | rfl | apply And.intro)) rfl rfl rfl)); (focus (exact rfl)); (focus (exact rfl)); (focus (first | exact want_n | exact want_g rfl (by with_reducible rfl))))
      refine wSY ?_
      rw [hc]
      refine wY ?_
      exact finc ⟨⟨(by repeat' (first | exact True.intro | rfl | apply And.intro)), rfl⟩, rc_of rfl rfl rfl, trivial⟩
  · rw [decide_eq_false k1]
    simp only [Bool.false_and, Bool.false_eq_true, if_false]
    rw [hz]
    have g1 : ((16 : Nat) : Int) < (cnt b p : Nat) := by omega
    refine CFn_intro Try.func61 rfl Try.ntmps61 rfl (by simp) [_] rfl fun E hE => ?_; have hnt : (!true) = false := rfl; have hnf : (!false) = true := rfl
    have d0 := ccall Try.func60 (c0) (by decide +kernel) (by decide +kernel)
    refine wY ?_
    (apply WcN [1000] [1000]; (focus (exact o_ccall [(1000, 1000)] d0 rfl rfl rfl rfl (by repeat (first | exact .nil | refine .cons (.inl ⟨rfl, rfl⟩) ?_ | refine .cons (.inr ⟨rfl, fun _ => Wk.tok⟩) ?_)) (by repeat' (first | exact True.intro | rfl | apply And.intro)) (by repeat' (first | exact True.intro | rfl | apply And.intro)) rfl rfl rfl)); (focus (exact rfl)); (focus (exact rfl)); (focus (first | exact want_n | exact want_g rfl (by with_reducible rfl))))
    refine wSY ?_
    rw [hc]
    refine wY ?_
    exact finc ⟨⟨(by repeat' (first | exact True.intro | rfl | apply And.intro)), rfl⟩, rc_of rfl rfl rfl, trivial⟩
end Go.Proofs.Ytcmdhpinelnclaa

namespace Go.Proofs.Ytcmdhpinelnclaa
open Go Go.RowKit
set_option linter.unusedVariables false
set_option linter.unusedSimpArgs false
set_option maxRecDepth 100000

/-! ### plain law -/
def rdKey (b : List (BitVec 8)) (s : Rst) : Key × Rst := (mkKey (takeS b s 8), stT b s 8)
def rdVl (b : List (BitVec 8)) (s : Rst) : Vl × Rst := (mkVl (takeS b s 16), stT b s 16)
def rdKid (b : List (BitVec 8)) (s : Rst) : Int × Rst := ((numAt b s.pos 4).toInt, stN b s 4)
def rdEnt (b : List (BitVec 8)) (s : Rst) : Ent × Rst := (⟨(rdKey b s).1, (rdVl b (rdKey b s).2).1⟩, (rdVl b (rdKey b s).2).2)
def rdRest (b : List (BitVec 8)) (k : Int) (s : Rst) : (Vl × BitVec 64) × Rst := if k = 1 then (((rdVl b s).1, 0#64), (rdVl b s).2) else if k = 3 then ((Vl.zero, numAt b s.pos 8), stN b s 8) else ((Vl.zero, 0#64), s)
def msK (b : List (BitVec 8)) (s : Rst) : Int := (numAt b s.pos 1).toInt
def msS1 (b : List (BitVec 8)) (s : Rst) : Rst := stN b s 1
def msS2 (b : List (BitVec 8)) (s : Rst) : Rst := stN b (msS1 b s) 8
def msS3 (b : List (BitVec 8)) (s : Rst) : Rst := (rdKey b (msS2 b s)).2
def rdMsg (b : List (BitVec 8)) (s : Rst) : Msg × Rst := (⟨msK b s, numAt b (msS1 b s).pos 8, (rdKey b (msS2 b s)).1, (rdRest b (msK b s) (msS3 b s)).1.1, (rdRest b (msK b s) (msS3 b s)).1.2⟩, (rdRest b (msK b s) (msS3 b s)).2)
theorem stT_pos (b : List (BitVec 8)) (s : Rst) (m : Nat) : (stT b s m).pos ≤ s.pos + 1 + m := by
  unfold stT takeOk
  split
  · rename_i h
    rw [Bool.and_eq_true, decide_eq_true_eq, decide_eq_true_eq] at h
    show s.pos + 1 + cnt b s.pos ≤ _
    omega
  · show s.pos + 1 ≤ _; omega
theorem rdKey_pos (b : List (BitVec 8)) (s : Rst) : (rdKey b s).2.pos ≤ s.pos + 9 := stT_pos b s 8
theorem rdVl_pos (b : List (BitVec 8)) (s : Rst) : (rdVl b s).2.pos ≤ s.pos + 17 := stT_pos b s 16
theorem rdKid_pos (b : List (BitVec 8)) (s : Rst) : (rdKid b s).2.pos ≤ s.pos + 40 := by show s.pos + 4 ≤ _; omega
theorem rdEnt_pos (b : List (BitVec 8)) (s : Rst) : (rdEnt b s).2.pos ≤ s.pos + 40 := by
  have h1 := rdKey_pos b s
  have h2 := rdVl_pos b (rdKey b s).2
  show (rdVl b (rdKey b s).2).2.pos ≤ _
  omega
theorem rdRest_pos (b : List (BitVec 8)) (k : Int) (s : Rst) : (rdRest b k s).2.pos ≤ s.pos + 17 := by
  unfold rdRest
  split
  · exact rdVl_pos b s
  · split
    · show s.pos + 8 ≤ _; omega
    · show s.pos ≤ _; omega
theorem rdMsg_pos (b : List (BitVec 8)) (s : Rst) : (rdMsg b s).2.pos ≤ s.pos + 40 := by
  have h1 := rdKey_pos b (msS2 b s)
  have h2 := rdRest_pos b (msK b s) (msS3 b s)
  have h3 : (msS2 b s).pos = s.pos + 1 + 8 := rfl
  have h4 : (msS3 b s).pos = (rdKey b (msS2 b s)).2.pos := rfl
  show (rdRest b (msK b s) (msS3 b s)).2.pos ≤ _
  omega
/-- so many -/
def rdMany {α : Type} (f : Rst → α × Rst) : Nat → Rst → List α × Rst
  | 0, s => ([], s)
  | n + 1, s => ((rdMany f n s).1 ++ [(f (rdMany f n s).2).1], (f (rdMany f n s).2).2)
theorem rdMany_len {α : Type} (f : Rst → α × Rst) (s : Rst) : ∀ n, (rdMany f n s).1.length = n
  | 0 => rfl
  | n + 1 => by show ((rdMany f n s).1 ++ [_]).length = _; rw [List.length_append, rdMany_len f s n]; rfl
theorem rdMany_pos {α : Type} (f : Rst → α × Rst) (hf : ∀ s, (f s).2.pos ≤ s.pos + 40) (s : Rst) : ∀ n, (rdMany f n s).2.pos ≤ s.pos + 40 * n
  | 0 => Nat.le_refl _
  | n + 1 => by
    have h1 := rdMany_pos f hf s n
    have h2 := hf (rdMany f n s).2
    show (f (rdMany f n s).2).2.pos ≤ _
    omega
section
variable {P : Program} {E : Env} {nt : Nat} {ops : Array Oper} {T : Nat → Option AV} {H : Hp} {d : Option Nat} {ty : TypeId} {pos : String} {af : Array Edge} {gd : Option (Nat × Bool)}
theorem ok_ccallF {f : FuncId} {fn : Func} {x : Operand} {l : List Operand} {ats : Array TypeId} {firs xs ys : List AV} {y : AV} {H1 H2 : List (Nat × Bx)} (σ : Nat → Nat) (hc : CFn P f ys H1 y H2) (hd : dOk nt d = true) (hf : P.funcs[f]? = some fn) (hb : fn.body.isSome = true) (hnm : (fn.name == "runtime.NumGoroutine") = false)
    (hxf : evalO T x = some (.fn (.func f) firs [])) (hx : l.map (evalO T) = xs.map some) (hnt : xs.all notTup = true) (hw : WkGL σ H1 (firs ++ xs) ys)
    (hn : NamesOk σ H H1 H1) (hfr : FreshOk σ H H1 H2) (ho : OutB σ H1 H2 = true) (hi : nodupB (H1.map fun p => σ p.1) = true) (hy : (namesA y).all (fun g => (look g H2).isSome) = true) :
    OpOK P E nt ops ⟨d, .call { callee := .value x, args := l.toArray, argTypes := ats }, ty, pos, af, gd⟩ T H ((H1.map fun p => σ p.1)) ⟨renA σ y, outW σ H2⟩ := by
  intro T' H' ht hrh hwr B a w r K Q hK
  have hag : ∀ p ∈ H1, H' (σ p.1) = H (σ p.1) := fun p hp => hrh _ (List.mem_map.2 ⟨p, hp, rfl⟩)
  have hn' : NamesOk σ H' H1 H1 := by
    have : ∀ l : List (Nat × Bx), (∀ p ∈ l, H' (σ p.1) = H (σ p.1)) → NamesOk σ H H1 l → NamesOk σ H' H1 l := by
      intro l
      induction l with
      | nil => exact fun _ _ => trivial
      | cons p l ih =>
        obtain ⟨c, bx⟩ := p
        intro h1 ⟨h2, h3, h4⟩
        exact ⟨(h1 (c, bx) List.mem_cons_self).trans h2, h3, ih (fun p hp => h1 p (List.mem_cons_of_mem _ hp)) h4⟩
    exact this H1 hag hn
  have hfr' : FreshOk σ H' H1 H2 := by
    have : ∀ l : List (Nat × Bx), (∀ p ∈ l, H' (σ p.1) = H (σ p.1)) → FreshOk σ H H1 l → FreshOk σ H' H1 l := by
      intro l
      induction l with
      | nil => exact fun _ _ => trivial
      | cons p l ih =>
        obtain ⟨c, bx⟩ := p
        intro h1 ⟨h2, h3⟩
        refine ⟨?_, ih (fun p hp => h1 p (List.mem_cons_of_mem _ hp)) h3⟩
        cases hl : look c H1 with
        | some b1 => rw [hl] at h2; exact h2
        | none => rw [hl] at h2; exact (h1 (c, bx) List.mem_cons_self).trans h2
    exact this H2 (fun p hp => hwr (σ p.1, renB σ p.2) (List.mem_map.2 ⟨p, hp, rfl⟩)) hfr
  have hxs := args_rdp r l xs (map_agree hx (fun y hy => agree_op ht (by simp [Op.operands, Call.operands]; exact .inr hy))) (fun z hz => notTup_ne (List.all_eq_true.1 hnt z hz))
  have hfv := Rdv_one (by simp) (r.eval ((agree_op ht (x := x) (by simp [Op.operands, Call.operands])).trans hxf)) rfl
  simp only [Rd] at hfv
  obtain ⟨c1, c2, e1, e2, e3⟩ := hfv
  simp only [Rdp] at e3
  subst e3
  injection e1 with e1
  obtain ⟨k1, k2⟩ := hw.rdp (Rdp_append e2 hxs)
  have h2 := call_boxes r.mem hc (fun _ => trivial) k1 k2 hn' hfr' ho hi hy
  unfold Oper.wp
  have he : (execOp a.eval ⟨d, .call { callee := .value x, args := l.toArray, argTypes := ats }, ty, pos, af, gd⟩).run P w = .ok (.enter f (c1 ++ l.map a.eval).toArray) w := by
    have hb' : fn.body ≠ none := by cases h : fn.body <;> simp_all
    have hn' : fn.name ≠ "runtime.NumGoroutine" := by simpa using hnm
    have ha : (c1 ++ l.map a.eval).toArray = c1.toArray ++ (l.toArray.map a.eval) := by apply Array.ext'; simp
    rw [ha]
    simp [execOp, resolve, Deferred.ofValue, e1, invoke, callFunc, hf, hn', hb']
  rw [he]
  refine Calls.mono h2 ?_
  rintro e w' ⟨v, B', rfl, h3, h4, h5⟩
  refine hK B' _ w' ((h3.rel r.nt r.df fun s z hs => ?_).put hd h4)
  obtain ⟨v0, q1, q2⟩ := r.tmp s z hs
  exact ⟨v0, q1, h5 _ _ q2⟩
/-- a method value -/
theorem ok_mkfnF {f : FuncId} {l : List Operand} {xs : List AV} (hd : dOk nt d = true) (hx : l.map (evalO T) = xs.map some) (hnt : xs.all notTup = true) : OpOK P E nt ops ⟨d, .makeFunc (.func f) l.toArray #[], ty, pos, af, gd⟩ T H [] ⟨.fn (.func f) xs [], []⟩ :=
  ok_val hd fun B T' H' a w r ht hh => by
    have hxs := args_rdp r l xs (map_agree hx (fun y hy => ht y (by simp [Op.operands]; exact hy))) (fun z hz => notTup_ne (List.all_eq_true.1 hnt z hz))
    refine ⟨.func (.func f) (l.map a.eval).toArray #[], by simp [execOp, Instr.makeFunc], ?_⟩
    rw [Rdv_not (by simp)]
    exact ⟨[_], by simp only [Rd]; exact ⟨l.map a.eval, [], rfl, hxs, by simp [Rdp]⟩, rfl⟩
end
section
variable {E : Env} {nt : Nat} {ops : Array Oper} {T : Nat → Option AV} {H : Hp} {d : Option Nat} {ty : TypeId} {pos : String} {af : Array Edge} {gd : Option (Nat × Bool)}
/-- a call with boxes whose result is plain data -/
theorem o_ccalld {f : FuncId} {x : Operand} {l : List Operand} {ats : Array TypeId} {caps xs ys : List AV} {y : AV} {H1 H2 : List (Nat × Bx)} (s : List (Nat × Nat)) (hc : CCall f ys H1 y H2) (hyd : dataA y = true) (hd : dOk nt d = true)
    (hxf : evalO T x = some (.fn (.func f) [] caps)) (hx : argsA T l = some xs) (hnt : xs.all notTup = true) (hw : WkGL (sg s) H1 (xs ++ caps) ys)
    (hn : NamesOk (sg s) H H1 H1) (hfr : FreshOk (sg s) H H1 H2) (ho : OutB (sg s) H1 H2 = true) (hi : nodupB (H1.map fun p => sg s p.1) = true) :
    OpOK Try.prog E nt ops ⟨d, .call { callee := .value x, args := l.toArray, argTypes := ats }, ty, pos, af, gd⟩ T H ((H1.map fun p => sg s p.1)) ⟨y, outW (sg s) H2⟩ := by
  obtain ⟨h1, h2⟩ := ren_data (sg s) y hyd
  have := o_ccall (E := E) (nt := nt) (ops := ops) (T := T) (H := H) (d := d) (ty := ty) (pos := pos) (af := af) (gd := gd) (ats := ats) s hc hd hxf hx hnt hw hn hfr ho hi (by rw [h2]; rfl)
  rwa [h1] at this
theorem o_ccalldF {f : FuncId} {x : Operand} {l : List Operand} {ats : Array TypeId} {firs xs ys : List AV} {y : AV} {H1 H2 : List (Nat × Bx)} (s : List (Nat × Nat)) (hc : CCall f ys H1 y H2) (hyd : dataA y = true) (hd : dOk nt d = true)
    (hxf : evalO T x = some (.fn (.func f) firs [])) (hx : argsA T l = some xs) (hnt : xs.all notTup = true) (hw : WkGL (sg s) H1 (firs ++ xs) ys)
    (hn : NamesOk (sg s) H H1 H1) (hfr : FreshOk (sg s) H H1 H2) (ho : OutB (sg s) H1 H2 = true) (hi : nodupB (H1.map fun p => sg s p.1) = true) :
    OpOK Try.prog E nt ops ⟨d, .call { callee := .value x, args := l.toArray, argTypes := ats }, ty, pos, af, gd⟩ T H ((H1.map fun p => sg s p.1)) ⟨y, outW (sg s) H2⟩ := by
  obtain ⟨h1, h2⟩ := ren_data (sg s) y hyd
  obtain ⟨fn, k1, k2, k3, k4⟩ := hc
  have := ok_ccallF (E := E) (nt := nt) (ops := ops) (T := T) (H := H) (d := d) (ty := ty) (pos := pos) (af := af) (gd := gd) (ats := ats) (sg s) k4 hd k1 k2 k3 hxf (argsA_map hx) hnt hw hn hfr ho hi (by rw [h2]; rfl)
  rwa [h1] at this
theorem o_mkfnF {f : FuncId} {l : List Operand} {xs : List AV} (hd : dOk nt d = true) (hx : argsA T l = some xs) (hnt : xs.all notTup = true) :
    OpOK Try.prog E nt ops ⟨d, .makeFunc (.func f) l.toArray #[], ty, pos, af, gd⟩ T H [] ⟨.fn (.func f) xs [], []⟩ := ok_mkfnF hd (argsA_map hx) hnt
end
attribute [local irreducible] OpOK AWops AW CondB Go2 AFn thenA inBlockA noGotoA orderOk wantedA
set_option maxRecDepth 100000 in
set_option maxHeartbeats 4000000 in
theorem c_rkey (b : List (BitVec 8)) (s : Rst) (hb : b.length ≤ 1000000) (hs : s.pos ≤ 800000) :
    CFn Try.prog 33 [.ptr 1000 0 []] (bxR b s) (rdKey b s).1.av (bxR b (rdKey b s).2) := by
  have c0 := c_rbytesK b s hb (by omega)
  unfold rdKey mkKey
  dsimp only
  refine CFn_intro Try.func33 rfl Try.ntmps33 rfl (by simp) [_] rfl fun E hE => ?_; have hnt : (!true) = false := rfl; have hnf : (!false) = true := rfl
  have d0 := ccall Try.func61 (c0) (by decide +kernel) (by decide +kernel)
  refine wY ?_
  (apply WcN [1000, 3] [1000, 3]; (focus (exact o_ccall [(1000, 1000), (1001, 3)] d0 rfl rfl rfl rfl (by repeat (first | exact .nil | refine .cons (.inl ⟨rfl, rfl⟩) ?_ | refine .cons (.inr ⟨rfl, fun _ => Wk.tok⟩) ?_)) (by repeat' (first | exact True.intro | rfl | apply And.intro)) (by repeat' (first | exact True.intro | rfl | apply And.intro)) rfl rfl rfl)); (focus (exact rfl)); (focus (exact rfl)); (focus (first | exact want_n | exact want_g rfl (by with_reducible rfl))))
  refine wY ?_
  exact finc ⟨⟨(by repeat' (first | exact True.intro | rfl | apply And.intro)), rfl⟩, rc_var rfl rfl rfl rfl, trivial⟩
set_option maxRecDepth 100000 in
set_option maxHeartbeats 4000000 in
theorem c_rvl (b : List (BitVec 8)) (s : Rst) (hb : b.length ≤ 1000000) (hs : s.pos ≤ 800000) :
    CFn Try.prog 59 [.ptr 1000 0 []] (bxR b s) (rdVl b s).1.av (bxR b (rdVl b s).2) := by
  have c0 := c_rbytesV b s hb (by omega)
  unfold rdVl mkVl
  dsimp only
  refine CFn_intro Try.func59 rfl Try.ntmps59 rfl (by simp) [_] rfl fun E hE => ?_; have hnt : (!true) = false := rfl; have hnf : (!false) = true := rfl
  have d0 := ccall Try.func61 (c0) (by decide +kernel) (by decide +kernel)
  refine wY ?_
  (apply WcN [1000, 3] [1000, 3]; (focus (exact o_ccall [(1000, 1000), (1001, 3)] d0 rfl rfl rfl rfl (by repeat (first | exact .nil | refine .cons (.inl ⟨rfl, rfl⟩) ?_ | refine .cons (.inr ⟨rfl, fun _ => Wk.tok⟩) ?_)) (by repeat' (first | exact True.intro | rfl | apply And.intro)) (by repeat' (first | exact True.intro | rfl | apply And.intro)) rfl rfl rfl)); (focus (exact rfl)); (focus (exact rfl)); (focus (first | exact want_n | exact want_g rfl (by with_reducible rfl))))
  refine wY ?_
  exact finc ⟨⟨(by repeat' (first | exact True.intro | rfl | apply And.intro)), rfl⟩, rc_var rfl rfl rfl rfl, trivial⟩
set_option maxRecDepth 100000 in
set_option maxHeartbeats 4000000 in
theorem c_rkid (b : List (BitVec 8)) (s : Rst) (hb : b.length ≤ 1000000) (hs : s.pos ≤ 700000) :
    CFn Try.prog 31 [.ptr 1000 0 []] (bxR b s) (intA (rdKid b s).1) (bxR b (rdKid b s).2) := by
  have c0 := c_rnum b s 4 hb (by omega) (by omega) (by omega)
  unfold rdKid
  dsimp only
  refine CFn_intro Try.func31 rfl Try.ntmps31 rfl (by simp) [_] rfl fun E hE => ?_; have hnt : (!true) = false := rfl; have hnf : (!false) = true := rfl
  have d0 := ccall Try.func60 (c0) (by decide +kernel) (by decide +kernel)
  refine wY ?_
  (apply WcN [1000] [1000]; (focus (exact o_ccall [(1000, 1000)] d0 rfl rfl rfl rfl (by repeat (first | exact .nil | refine .cons (.inl ⟨rfl, rfl⟩) ?_ | refine .cons (.inr ⟨rfl, fun _ => Wk.tok⟩) ?_)) (by repeat' (first | exact True.intro | rfl | apply And.intro)) (by repeat' (first | exact True.intro | rfl | apply And.intro)) rfl rfl rfl)); (focus (exact rfl)); (focus (exact rfl)); (focus (first | exact want_n | exact want_g rfl (by with_reducible rfl))))
  refine wY ?_
  exact finc ⟨⟨(by repeat' (first | exact True.intro | rfl | apply And.intro)), rfl⟩, rc_of rfl rfl rfl, trivial⟩
set_option maxRecDepth 100000 in
set_option maxHeartbeats 4000000 in
theorem c_rent (b : List (BitVec 8)) (s : Rst) (hb : b.length ≤ 1000000) (hs : s.pos ≤ 700000) :
    CFn Try.prog 29 [.ptr 1000 0 []] (bxR b s) (rdEnt b s).1.av (bxR b (rdEnt b s).2) := by
  have c0 := c_rkey b s hb (by omega)
  have c1 := c_rvl b (rdKey b s).2 hb (by have := rdKey_pos b s; omega)
  unfold rdEnt
  dsimp only
  refine CFn_intro Try.func29 rfl Try.ntmps29 rfl (by simp) [_] rfl fun E hE => ?_; have hnt : (!true) = false := rfl; have hnf : (!false) = true := rfl
  have d0 := ccall Try.func33 (c0) (by decide +kernel) (by decide +kernel)
  have d1 := ccall Try.func59 (c1) (by decide +kernel) (by decide +kernel)
  refine wY ?_
  (apply WcN [1000] [1000]; (focus (exact o_ccalld [(1000, 1000)] d0 rfl rfl rfl rfl rfl (by repeat (first | exact .nil | refine .cons (.inl ⟨rfl, rfl⟩) ?_ | refine .cons (.inr ⟨rfl, fun _ => Wk.tok⟩) ?_)) (by repeat' (first | exact True.intro | rfl | apply And.intro)) (by repeat' (first | exact True.intro | rfl | apply And.intro)) rfl rfl)); (focus (exact rfl)); (focus (exact rfl)); (focus (first | exact want_n | exact want_g rfl (by with_reducible rfl))))
  refine wY ?_
  (apply WcN [1000] [1000]; (focus (exact o_ccalld [(1000, 1000)] d1 rfl rfl rfl rfl rfl (by repeat (first | exact .nil | refine .cons (.inl ⟨rfl, rfl⟩) ?_ | refine .cons (.inr ⟨rfl, fun _ => Wk.tok⟩) ?_)) (by repeat' (first | exact True.intro | rfl | apply And.intro)) (by repeat' (first | exact True.intro | rfl | apply And.intro)) rfl rfl)); (focus (exact rfl)); (focus (exact rfl)); (focus (first | exact want_n | exact want_g rfl (by with_reducible rfl))))
  refine wY ?_
  exact finc ⟨⟨(by repeat' (first | exact True.intro | rfl | apply And.intro)), rfl⟩, rc_var rfl rfl rfl rfl, trivial⟩
set_option maxRecDepth 100000 in
set_option maxHeartbeats 4000000 in
theorem c_rmsg (b : List (BitVec 8)) (s : Rst) (hb : b.length ≤ 1000000) (hs : s.pos ≤ 700000) :
    CFn Try.prog 35 [.ptr 1000 0 []] (bxR b s) (rdMsg b s).1.av (bxR b (rdMsg b s).2) := by
  have c0 := c_rnum b s 1 hb (by omega) (by omega) (by omega)
  have c1 := c_rnum b (msS1 b s) 8 hb (by show s.pos + 1 ≤ _; omega) (by omega) (by omega)
  have c2 := c_rkey b (msS2 b s) hb (by show s.pos + 1 + 8 ≤ _; omega)
  have hp3 : (msS3 b s).pos ≤ s.pos + 18 := by have := rdKey_pos b (msS2 b s); have h3 : (msS2 b s).pos = s.pos + 1 + 8 := rfl; show (rdKey b (msS2 b s)).2.pos ≤ _; omega
  have c3 := c_rvl b (msS3 b s) hb (by omega)
  have c4 := c_rnum b (msS3 b s) 8 hb (by omega) (by omega) (by omega)
  have c0' : CFn Try.prog 60 [.ptr 1000 0 [], intA (1 : Nat)] (bxR b s) (u64A (numAt b s.pos 1)) (bxR b (msS1 b s)) := c0
  have c1' : CFn Try.prog 60 [.ptr 1000 0 [], intA (8 : Nat)] (bxR b (msS1 b s)) (u64A (numAt b (msS1 b s).pos 8)) (bxR b (msS2 b s)) := c1
  have c2' : CFn Try.prog 33 [.ptr 1000 0 []] (bxR b (msS2 b s)) (rdKey b (msS2 b s)).1.av (bxR b (msS3 b s)) := c2
  have hk : (numAt b s.pos 1).toInt = msK b s := rfl
  unfold rdMsg rdRest
  by_cases k1 : msK b s = 1
  · rw [if_pos k1]
    dsimp only
    have n3 : ¬ msK b s = 3 := by omega
    refine CFn_intro Try.func35 rfl Try.ntmps35 rfl (by simp) [_] rfl fun E hE => ?_; have hnt : (!true) = false := rfl; have hnf : (!false) = true := rfl
    have d0 := ccall Try.func60 (c0') (by decide +kernel) (by decide +kernel)
    have d1 := ccall Try.func60 (c1') (by decide +kernel) (by decide +kernel)
    have d2 := ccall Try.func33 (c2') (by decide +kernel) (by decide +kernel)
    have d3 := ccall Try.func59 (c3) (by decide +kernel) (by decide +kernel)
    refine wY ?_
    (apply WcN [1000] [1000]; (focus (exact o_ccalld [(1000, 1000)] d0 rfl rfl rfl rfl rfl (by repeat (first | exact .nil | refine .cons (.inl ⟨rfl, rfl⟩) ?_ | refine .cons (.inr ⟨rfl, fun _ => Wk.tok⟩) ?_)) (by repeat' (first | exact True.intro | rfl | apply And.intro)) (by repeat' (first | exact True.intro | rfl | apply And.intro)) rfl rfl)); (focus (exact rfl)); (focus (exact rfl)); (focus (first | exact want_n | exact want_g rfl (by with_reducible rfl))))
    refine wSY ?_
    rw [hk]
    refine wY ?_
    (apply WcN [1000] [1000]; (focus (exact o_ccalld [(1000, 1000)] d1 rfl rfl rfl rfl rfl (by repeat (first | exact .nil | refine .cons (.inl ⟨rfl, rfl⟩) ?_ | refine .cons (.inr ⟨rfl, fun _ => Wk.tok⟩) ?_)) (by repeat' (first | exact True.intro | rfl | apply And.intro)) (by repeat' (first | exact True.intro | rfl | apply And.intro)) rfl rfl)); (focus (exact rfl)); (focus (exact rfl)); (focus (first | exact want_n | exact want_g rfl (by with_reducible rfl))))
    refine wY ?_
    (apply WcN [1000] [1000]; (focus (exact o_ccalld [(1000, 1000)] d2 rfl rfl rfl rfl rfl (by repeat (first | exact .nil | refine .cons (.inl ⟨rfl, rfl⟩) ?_ | refine .cons (.inr ⟨rfl, fun _ => Wk.tok⟩) ?_)) (by repeat' (first | exact True.intro | rfl | apply And.intro)) (by repeat' (first | exact True.intro | rfl | apply And.intro)) rfl rfl)); (focus (exact rfl)); (focus (exact rfl)); (focus (first | exact want_n | exact want_g rfl (by with_reducible rfl))))
    refine wY ?_
    (apply WcN [1000] [1000]; (focus (exact o_ccalld [(1000, 1000)] d3 rfl rfl rfl rfl rfl (by repeat (first | exact .nil | refine .cons (.inl ⟨rfl, rfl⟩) ?_ | refine .cons (.inr ⟨rfl, fun _ => Wk.tok⟩) ?_)) (by repeat' (first | exact True.intro | rfl | apply And.intro)) (by repeat' (first | exact True.intro | rfl | apply And.intro)) rfl rfl)); (focus (exact rfl)); (focus (exact rfl)); (focus (first | exact want_n | exact want_g rfl (by with_reducible rfl))))
    refine wY ?_
    exact finc ⟨⟨(by repeat' (first | exact True.intro | rfl | apply And.intro)), rfl⟩, rc_var rfl rfl rfl rfl, trivial⟩
  · rw [if_neg k1]
    by_cases k3 : msK b s = 3
    · rw [if_pos k3]
      dsimp only
      refine CFn_intro Try.func35 rfl Try.ntmps35 rfl (by simp) [_] rfl fun E hE => ?_; have hnt : (!true) = false := rfl; have hnf : (!false) = true := rfl
      have d0 := ccall Try.func60 (c0') (by decide +kernel) (by decide +kernel)
      have d1 := ccall Try.func60 (c1') (by decide +kernel) (by decide +kernel)
      have d2 := ccall Try.func33 (c2') (by decide +kernel) (by decide +kernel)
      have d3 := ccall Try.func60 (c4) (by decide +kernel) (by decide +kernel)
      refine wY ?_
      (apply WcN [1000] [1000]; (focus (exact o_ccalld [(1000, 1000)] d0 rfl rfl rfl rfl rfl (by repeat (first | exact .nil | refine .cons (.inl ⟨rfl, rfl⟩) ?_ | refine .cons (.inr ⟨rfl, fun _ => Wk.tok⟩) ?_)) (by repeat' (first | exact True.intro | rfl | apply And.intro)) (by repeat' (first | exact True.intro | rfl | apply And.intro)) rfl rfl)); (focus (exact rfl)); (focus (exact rfl)); (focus (first | exact want_n | exact want_g rfl (by with_reducible rfl))))
      refine wSY ?_
      rw [hk]
      refine wY ?_
      (apply WcN [1000] [1000]; (focus (exact o_ccalld [(1000, 1000)] d1 rfl rfl rfl rfl rfl (by repeat (first | exact .nil | refine .cons (.inl ⟨rfl, rfl⟩) ?_ | refine .cons (.inr ⟨rfl, fun _ => Wk.tok⟩) ?_)) (by repeat' (first | exact True.intro | rfl | apply And.intro)) (by repeat' (first | exact True.intro | rfl | apply And.intro)) rfl rfl)); (focus (exact rfl)); (focus (exact rfl)); (focus (first | exact want_n | exact want_g rfl (by with_reducible rfl))))
      refine wY ?_
      (apply WcN [1000] [1000]; (focus (exact o_ccalld [(1000, 1000)] d2 rfl rfl rfl rfl rfl (by repeat (first | exact .nil | refine .cons (.inl ⟨rfl, rfl⟩) ?_ | refine .cons (.inr ⟨rfl, fun _ => Wk.tok⟩) ?_)) (by repeat' (first | exact True.intro | rfl | apply And.intro)) (by repeat' (first | exact True.intro | rfl | apply And.intro)) rfl rfl)); (focus (exact rfl)); (focus (exact rfl)); (focus (first | exact want_n | exact want_g rfl (by with_reducible rfl))))
      refine wY ?_
      (apply WcN [1000] [1000]; (focus (exact o_ccalld [(1000, 1000)] d3 rfl rfl rfl rfl rfl (by repeat (first | exact .nil | refine .cons (.inl ⟨rfl, rfl⟩) ?_ | refine .cons (.inr ⟨rfl, fun _ => Wk.tok⟩) ?_)) (by repeat' (first | exact True.intro | rfl | apply And.intro)) (by repeat' (first | exact True.intro | rfl | apply And.intro)) rfl rfl)); (focus (exact rfl)); (focus (exact rfl)); (focus (first | exact want_n | exact want_g rfl (by with_reducible rfl))))
      refine wY ?_
      exact finc ⟨⟨(by repeat' (first | exact True.intro | rfl | apply And.intro)), rfl⟩, rc_var rfl rfl rfl rfl, trivial⟩
    · rw [if_neg k3]
      dsimp only
      refine CFn_intro Try.func35 rfl Try.ntmps35 rfl (by simp) [_] rfl fun E hE => ?_; have hnt : (!true) = false := rfl; have hnf : (!false) = true := rfl
      have d0 := ccall Try.func60 (c0') (by decide +kernel) (by decide +kernel)
      have d1 := ccall Try.func60 (c1') (by decide +kernel) (by decide +kernel)
      have d2 := ccall Try.func33 (c2') (by decide +kernel) (by decide +kernel)
      refine wY ?_
      (apply WcN [1000] [1000]; (focus (exact o_ccalld [(1000, 1000)] d0 rfl rfl rfl rfl rfl (by repeat (first | exact .nil | refine .cons (.inl ⟨rfl, rfl⟩) ?_ | refine .cons (.inr ⟨rfl, fun _ => Wk.tok⟩) ?_)) (by repeat' (first | exact True.intro | rfl | apply And.intro)) (by repeat' (first | exact True.intro | rfl | apply And.intro)) rfl rfl)); (focus (exact rfl)); (focus (exact rfl)); (focus (first | exact want_n | exact want_g rfl (by with_reducible rfl))))
      refine wSY ?_
      rw [hk]
      refine wY ?_
      (apply WcN [1000] [1000]; (focus (exact o_ccalld [(1000, 1000)] d1 rfl rfl rfl rfl rfl (by repeat (first | exact .nil | refine .cons (.inl ⟨rfl, rfl⟩) ?_ | refine .cons (.inr ⟨rfl, fun _ => Wk.tok⟩) ?_)) (by repeat' (first | exact True.intro | rfl | apply And.intro)) (by repeat' (first | exact True.intro | rfl | apply And.intro)) rfl rfl)); (focus (exact rfl)); (focus (exact rfl)); (focus (first | exact want_n | exact want_g rfl (by with_reducible rfl))))
      refine wY ?_
      (apply WcN [1000] [1000]; (focus (exact o_ccalld [(1000, 1000)] d2 rfl rfl rfl rfl rfl (by repeat (first | exact .nil | refine .cons (.inl ⟨rfl, rfl⟩) ?_ | refine .cons (.inr ⟨rfl, fun _ => Wk.tok⟩) ?_)) (by repeat' (first | exact True.intro | rfl | apply And.intro)) (by repeat' (first | exact True.intro | rfl | apply And.intro)) rfl rfl)); (focus (exact rfl)); (focus (exact rfl)); (focus (first | exact want_n | exact want_g rfl (by with_reducible rfl))))
      refine wY ?_
      exact finc ⟨⟨(by repeat' (first | exact True.intro | rfl | apply And.intro)), rfl⟩, rc_var rfl rfl rfl rfl, trivial⟩
end Go.Proofs.Ytcmdhpinelnclaa

namespace Go.Proofs.Ytcmdhpinelnclaa
open Go Go.RowKit
set_option linter.unusedVariables false
set_option linter.unusedSimpArgs false
set_option maxRecDepth 100000

attribute [local irreducible] OpOK AWops AW CondB Go2 AFn thenA inBlockA noGotoA orderOk wantedA
set_option maxRecDepth 100000 in
set_option maxHeartbeats 4000000 in
theorem c_some_ent (b : List (BitVec 8)) (s : Rst) (n : Int) (hb : b.length ≤ 1000000) (hs : s.pos ≤ 100000) (hn : n ≤ 1000) :
    CFn Try.prog 28 [intA n, .fn (.func 29) [.ptr 1000 0 []] []] (bxR b s) (entsA (rdMany (rdEnt b) n.toNat s).1) (bxR b (rdMany (rdEnt b) n.toNat s).2) := by
  refine CFn_intro Try.func28 rfl Try.ntmps28 rfl (by simp) [_] rfl fun E hE => ?_; have hnt : (!true) = false := rfl; have hnf : (!false) = true := rfl
  refine wY ?_
  refine AW_go (Go2.token 5 40 25 64 rfl rfl) ?_
  refine AW_loopI (fun j : Nat => ⟨[(1, .fn (.func 29) [.ptr 1000 0 []] []), (5, .sl (some 40) 26 ((rdMany (rdEnt b) j s).1.map Ent.av)), (6, intA n), (7, .v (.int .i64 (j : Nat)))], [(1000, .var (rdA b (rdMany (rdEnt b) j s).2)), (40, .tail 64 26 (rdMany (rdEnt b) j s).1.length)]⟩) (fun j => j ≤ n.toNat) (fun j => n.toNat - j) 0 (Nat.zero_le _) (by (refine Go2.sub ⟨?_, ?_, ?_⟩ <;> repeat' (first | exact True.intro | rfl | apply And.intro))) (fun j hj => ?_)
  have hp := rdMany_pos (rdEnt b) (rdEnt_pos b) s j
  have hl := rdMany_len (rdEnt b) s j
  by_cases hlt : j < n.toNat
  · have hlt' : (j : Int) < n := by omega
    have d0 := c_rent b (rdMany (rdEnt b) j s).2 hb (by omega)
    have d1 := ccall Try.func29 (d0) (by decide +kernel) (by decide +kernel)
    refine wY ?_
    (apply WcN [1000] [1000]; (focus (exact o_ccalldF [(1000, 1000)] d1 rfl rfl rfl rfl rfl (by repeat (first | exact .nil | refine .cons (.inl ⟨rfl, rfl⟩) ?_ | refine .cons (.inr ⟨rfl, fun _ => Wk.tok⟩) ?_)) (by repeat' (first | exact True.intro | rfl | apply And.intro)) (by repeat' (first | exact True.intro | rfl | apply And.intro)) rfl rfl)); (focus (exact rfl)); (focus (exact rfl)); (focus (first | exact want_n | exact want_g rfl (by with_reducible rfl))))
    refine wY ?_
    refine ⟨j + 1, by omega, by omega, ?_⟩
    rw [show rdMany (rdEnt b) (j + 1) s = ((rdMany (rdEnt b) j s).1 ++ [(rdEnt b (rdMany (rdEnt b) j s).2).1], (rdEnt b (rdMany (rdEnt b) j s).2).2) from rfl]
    (refine Go2.sub ⟨?_, ?_, ?_⟩ <;> repeat' (first | exact True.intro | rfl | apply And.intro))
  · obtain rfl : j = n.toNat := by omega
    have hlt' : ¬ ((n.toNat : Nat) : Int) < n := by omega
    refine wY ?_
    exact finc ⟨⟨(by repeat' (first | exact True.intro | rfl | apply And.intro)), rfl⟩, rc_sl rfl, trivial⟩
set_option maxRecDepth 100000 in
set_option maxHeartbeats 4000000 in
theorem c_some_kid (b : List (BitVec 8)) (s : Rst) (n : Int) (hb : b.length ≤ 1000000) (hs : s.pos ≤ 100000) (hn : n ≤ 1000) :
    CFn Try.prog 30 [intA n, .fn (.func 31) [.ptr 1000 0 []] []] (bxR b s) (intsA (rdMany (rdKid b) n.toNat s).1) (bxR b (rdMany (rdKid b) n.toNat s).2) := by
  refine CFn_intro Try.func30 rfl Try.ntmps30 rfl (by simp) [_] rfl fun E hE => ?_; have hnt : (!true) = false := rfl; have hnf : (!false) = true := rfl
  refine wY ?_
  refine AW_go (Go2.token 5 40 0 3 rfl rfl) ?_
  refine AW_loopI (fun j : Nat => ⟨[(1, .fn (.func 31) [.ptr 1000 0 []] []), (5, .sl (some 40) 1 ((rdMany (rdKid b) j s).1.map intA)), (6, intA n), (7, .v (.int .i64 (j : Nat)))], [(1000, .var (rdA b (rdMany (rdKid b) j s).2)), (40, .tail 3 1 (rdMany (rdKid b) j s).1.length)]⟩) (fun j => j ≤ n.toNat) (fun j => n.toNat - j) 0 (Nat.zero_le _) (by (refine Go2.sub ⟨?_, ?_, ?_⟩ <;> repeat' (first | exact True.intro | rfl | apply And.intro))) (fun j hj => ?_)
  have hp := rdMany_pos (rdKid b) (rdKid_pos b) s j
  have hl := rdMany_len (rdKid b) s j
  by_cases hlt : j < n.toNat
  · have hlt' : (j : Int) < n := by omega
    have d0 := c_rkid b (rdMany (rdKid b) j s).2 hb (by omega)
    have d1 := ccall Try.func31 (d0) (by decide +kernel) (by decide +kernel)
    refine wY ?_
    (apply WcN [1000] [1000]; (focus (exact o_ccalldF [(1000, 1000)] d1 rfl rfl rfl rfl rfl (by repeat (first | exact .nil | refine .cons (.inl ⟨rfl, rfl⟩) ?_ | refine .cons (.inr ⟨rfl, fun _ => Wk.tok⟩) ?_)) (by repeat' (first | exact True.intro | rfl | apply And.intro)) (by repeat' (first | exact True.intro | rfl | apply And.intro)) rfl rfl)); (focus (exact rfl)); (focus (exact rfl)); (focus (first | exact want_n | exact want_g rfl (by with_reducible rfl))))
    refine wY ?_
    refine ⟨j + 1, by omega, by omega, ?_⟩
    rw [show rdMany (rdKid b) (j + 1) s = ((rdMany (rdKid b) j s).1 ++ [(rdKid b (rdMany (rdKid b) j s).2).1], (rdKid b (rdMany (rdKid b) j s).2).2) from rfl]
    (refine Go2.sub ⟨?_, ?_, ?_⟩ <;> repeat' (first | exact True.intro | rfl | apply And.intro))
  · obtain rfl : j = n.toNat := by omega
    have hlt' : ¬ ((n.toNat : Nat) : Int) < n := by omega
    refine wY ?_
    exact finc ⟨⟨(by repeat' (first | exact True.intro | rfl | apply And.intro)), rfl⟩, rc_sl rfl, trivial⟩
set_option maxRecDepth 100000 in
set_option maxHeartbeats 4000000 in
theorem c_some_key (b : List (BitVec 8)) (s : Rst) (n : Int) (hb : b.length ≤ 1000000) (hs : s.pos ≤ 100000) (hn : n ≤ 1000) :
    CFn Try.prog 32 [intA n, .fn (.func 33) [.ptr 1000 0 []] []] (bxR b s) (keysA (rdMany (rdKey b) n.toNat s).1) (bxR b (rdMany (rdKey b) n.toNat s).2) := by
  refine CFn_intro Try.func32 rfl Try.ntmps32 rfl (by simp) [_] rfl fun E hE => ?_; have hnt : (!true) = false := rfl; have hnf : (!false) = true := rfl
  refine wY ?_
  refine AW_go (Go2.token 5 40 8 59 rfl rfl) ?_
  refine AW_loopI (fun j : Nat => ⟨[(1, .fn (.func 33) [.ptr 1000 0 []] []), (5, .sl (some 40) 9 ((rdMany (rdKey b) j s).1.map Key.av)), (6, intA n), (7, .v (.int .i64 (j : Nat)))], [(1000, .var (rdA b (rdMany (rdKey b) j s).2)), (40, .tail 59 9 (rdMany (rdKey b) j s).1.length)]⟩) (fun j => j ≤ n.toNat) (fun j => n.toNat - j) 0 (Nat.zero_le _) (by (refine Go2.sub ⟨?_, ?_, ?_⟩ <;> repeat' (first | exact True.intro | rfl | apply And.intro))) (fun j hj => ?_)
  have hp := rdMany_pos (rdKey b) (fun s => by have := rdKey_pos b s; omega) s j
  have hl := rdMany_len (rdKey b) s j
  by_cases hlt : j < n.toNat
  · have hlt' : (j : Int) < n := by omega
    have d0 := c_rkey b (rdMany (rdKey b) j s).2 hb (by omega)
    have d1 := ccall Try.func33 (d0) (by decide +kernel) (by decide +kernel)
    refine wY ?_
    (apply WcN [1000] [1000]; (focus (exact o_ccalldF [(1000, 1000)] d1 rfl rfl rfl rfl rfl (by repeat (first | exact .nil | refine .cons (.inl ⟨rfl, rfl⟩) ?_ | refine .cons (.inr ⟨rfl, fun _ => Wk.tok⟩) ?_)) (by repeat' (first | exact True.intro | rfl | apply And.intro)) (by repeat' (first | exact True.intro | rfl | apply And.intro)) rfl rfl)); (focus (exact rfl)); (focus (exact rfl)); (focus (first | exact want_n | exact want_g rfl (by with_reducible rfl))))
    refine wY ?_
    refine ⟨j + 1, by omega, by omega, ?_⟩
    rw [show rdMany (rdKey b) (j + 1) s = ((rdMany (rdKey b) j s).1 ++ [(rdKey b (rdMany (rdKey b) j s).2).1], (rdKey b (rdMany (rdKey b) j s).2).2) from rfl]
    (refine Go2.sub ⟨?_, ?_, ?_⟩ <;> repeat' (first | exact True.intro | rfl | apply And.intro))
  · obtain rfl : j = n.toNat := by omega
    have hlt' : ¬ ((n.toNat : Nat) : Int) < n := by omega
    refine wY ?_
    exact finc ⟨⟨(by repeat' (first | exact True.intro | rfl | apply And.intro)), rfl⟩, rc_sl rfl, trivial⟩
set_option maxRecDepth 100000 in
set_option maxHeartbeats 4000000 in
theorem c_some_msg (b : List (BitVec 8)) (s : Rst) (n : Int) (hb : b.length ≤ 1000000) (hs : s.pos ≤ 100000) (hn : n ≤ 1000) :
    CFn Try.prog 34 [intA n, .fn (.func 35) [.ptr 1000 0 []] []] (bxR b s) (msgsA (rdMany (rdMsg b) n.toNat s).1) (bxR b (rdMany (rdMsg b) n.toNat s).2) := by
  refine CFn_intro Try.func34 rfl Try.ntmps34 rfl (by simp) [_] rfl fun E hE => ?_; have hnt : (!true) = false := rfl; have hnf : (!false) = true := rfl
  refine wY ?_
  refine AW_go (Go2.token 5 40 28 73 rfl rfl) ?_
  refine AW_loopI (fun j : Nat => ⟨[(1, .fn (.func 35) [.ptr 1000 0 []] []), (5, .sl (some 40) 29 ((rdMany (rdMsg b) j s).1.map Msg.av)), (6, intA n), (7, .v (.int .i64 (j : Nat)))], [(1000, .var (rdA b (rdMany (rdMsg b) j s).2)), (40, .tail 73 29 (rdMany (rdMsg b) j s).1.length)]⟩) (fun j => j ≤ n.toNat) (fun j => n.toNat - j) 0 (Nat.zero_le _) (by (refine Go2.sub ⟨?_, ?_, ?_⟩ <;> repeat' (first | exact True.intro | rfl | apply And.intro))) (fun j hj => ?_)
  have hp := rdMany_pos (rdMsg b) (rdMsg_pos b) s j
  have hl := rdMany_len (rdMsg b) s j
  by_cases hlt : j < n.toNat
  · have hlt' : (j : Int) < n := by omega
    have d0 := c_rmsg b (rdMany (rdMsg b) j s).2 hb (by omega)
    have d1 := ccall Try.func35 (d0) (by decide +kernel) (by decide +kernel)
    refine wY ?_
    (apply WcN [1000] [1000]; (focus (exact o_ccalldF [(1000, 1000)] d1 rfl rfl rfl rfl rfl (by repeat (first | exact .nil | refine .cons (.inl ⟨rfl, rfl⟩) ?_ | refine .cons (.inr ⟨rfl, fun _ => Wk.tok⟩) ?_)) (by repeat' (first | exact True.intro | rfl | apply And.intro)) (by repeat' (first | exact True.intro | rfl | apply And.intro)) rfl rfl)); (focus (exact rfl)); (focus (exact rfl)); (focus (first | exact want_n | exact want_g rfl (by with_reducible rfl))))
    refine wY ?_
    refine ⟨j + 1, by omega, by omega, ?_⟩
    rw [show rdMany (rdMsg b) (j + 1) s = ((rdMany (rdMsg b) j s).1 ++ [(rdMsg b (rdMany (rdMsg b) j s).2).1], (rdMsg b (rdMany (rdMsg b) j s).2).2) from rfl]
    (refine Go2.sub ⟨?_, ?_, ?_⟩ <;> repeat' (first | exact True.intro | rfl | apply And.intro))
  · obtain rfl : j = n.toNat := by omega
    have hlt' : ¬ ((n.toNat : Nat) : Int) < n := by omega
    refine wY ?_
    exact finc ⟨⟨(by repeat' (first | exact True.intro | rfl | apply And.intro)), rfl⟩, rc_sl rfl, trivial⟩
end Go.Proofs.Ytcmdhpinelnclaa

namespace Go.Proofs.Ytcmdhpinelnclaa
open Go Go.RowKit
set_option linter.unusedVariables false
set_option linter.unusedSimpArgs false
set_option maxRecDepth 100000

attribute [local irreducible] OpOK AWops AW CondB Go2 AFn thenA inBlockA noGotoA orderOk wantedA
set_option maxRecDepth 100000 in
set_option maxHeartbeats 4000000 in
theorem a_sameEnts (a b : List Ent) (h1 : a.length ≤ 1000000000) : AFn Try.prog 39 [entsA a, entsA b] (boolA (decide (a = b))) := by
  refine AFn_intro Try.func39 rfl Try.ntmps39 rfl (by simp) [_] rfl fun E hE => ?_
  by_cases hl : a.length = b.length
  · refine wL ?_
    refine AW_loopI (fun j : Nat => ⟨[(0, entsA a), (1, entsA b), (5, intA j)], []⟩) (fun j => j ≤ a.length ∧ a.take j = b.take j) (fun j => a.length - j) 0 ⟨Nat.zero_le _, rfl⟩ (by (refine Go2.sub ⟨?_, ?_, ?_⟩ <;> repeat' (first | exact True.intro | rfl | apply And.intro))) (fun j hj => ?_)
    obtain ⟨hj, hJ⟩ := hj
    by_cases hlt : j < a.length
    · have hlt' : j < b.length := by omega
      by_cases h : a[j] = b[j]
      · have h' : ¬ a[j] ≠ b[j] := fun k => k h
        refine wL ?_
        refine ⟨j + 1, ⟨hlt, same_step a b j hlt hlt' h hJ⟩, by omega, ?_⟩
        (refine Go2.sub ⟨?_, ?_, ?_⟩ <;> repeat' (first | exact True.intro | rfl | apply And.intro))
      · have h' : a[j] ≠ b[j] := h
        rw [same_no a b j hlt hlt' h]
        refine wL ?_
        exact fin ⟨res_of rfl rfl rfl, trivial⟩
    · have : j = a.length := by omega
      subst this
      rw [List.take_length, hl, List.take_length] at hJ
      rw [decide_eq_true hJ]
      refine wL ?_
      exact fin ⟨res_of rfl rfl rfl, trivial⟩
  · rw [show decide (a = b) = false from decide_eq_false fun k => hl (by rw [k])]
    refine wL ?_
    exact fin ⟨res_of rfl rfl rfl, trivial⟩
set_option maxRecDepth 100000 in
set_option maxHeartbeats 4000000 in
theorem a_sameMsgs (a b : List Msg) (h1 : a.length ≤ 1000000000) : AFn Try.prog 42 [msgsA a, msgsA b] (boolA (decide (a = b))) := by
  refine AFn_intro Try.func42 rfl Try.ntmps42 rfl (by simp) [_] rfl fun E hE => ?_
  by_cases hl : a.length = b.length
  · refine wL ?_
    refine AW_loopI (fun j : Nat => ⟨[(0, msgsA a), (1, msgsA b), (5, intA j)], []⟩) (fun j => j ≤ a.length ∧ a.take j = b.take j) (fun j => a.length - j) 0 ⟨Nat.zero_le _, rfl⟩ (by (refine Go2.sub ⟨?_, ?_, ?_⟩ <;> repeat' (first | exact True.intro | rfl | apply And.intro))) (fun j hj => ?_)
    obtain ⟨hj, hJ⟩ := hj
    by_cases hlt : j < a.length
    · have hlt' : j < b.length := by omega
      by_cases h : a[j] = b[j]
      · have h' : ¬ a[j] ≠ b[j] := fun k => k h
        refine wL ?_
        refine ⟨j + 1, ⟨hlt, same_step a b j hlt hlt' h hJ⟩, by omega, ?_⟩
        (refine Go2.sub ⟨?_, ?_, ?_⟩ <;> repeat' (first | exact True.intro | rfl | apply And.intro))
      · have h' : a[j] ≠ b[j] := h
        rw [same_no a b j hlt hlt' h]
        refine wL ?_
        exact fin ⟨res_of rfl rfl rfl, trivial⟩
    · have : j = a.length := by omega
      subst this
      rw [List.take_length, hl, List.take_length] at hJ
      rw [decide_eq_true hJ]
      refine wL ?_
      exact fin ⟨res_of rfl rfl rfl, trivial⟩
  · rw [show decide (a = b) = false from decide_eq_false fun k => hl (by rw [k])]
    refine wL ?_
    exact fin ⟨res_of rfl rfl rfl, trivial⟩
end Go.Proofs.Ytcmdhpinelnclaa

namespace Go.Proofs.Ytcmdhpinelnclaa
open Go Go.RowKit
set_option linter.unusedVariables false
set_option linter.unusedSimpArgs false
set_option maxRecDepth 100000

theorem run_method {P : Program} {t : TypeId} {v : Value} {name : String} {f : FuncId} {F : Array Field} (n : Nat) (h : (P.info? t).bind (fun i => (i.methods.find? (·.name == name)).map fun m => (m.path.toList.length, m.func)) = some (0, some (f, false))) (hu : P.underlying t = some (.struct F)) (w : World) : (Go.method (n + 1) t v name).run P w = .ok (f, v) w := by
  cases hi : P.info? t with
  | none => rw [hi] at h; cases h
  | some i =>
    rw [hi] at h
    simp only [Option.bind_some] at h
    cases hm : i.methods.find? (·.name == name) with
    | none => rw [hm] at h; cases h
    | some m =>
      rw [hm] at h
      simp only [Option.map_some, Option.some.injEq, Prod.mk.injEq] at h
      obtain ⟨h1, h2⟩ := h
      have h3 : m.path.toList = [] := List.eq_nil_of_length_eq_zero h1
      unfold Go.method
      simp [typeInfo, hi, hm, h2, h3, Go.follow, Go.receiverAt, run_underlying hu, Go.Place.get]
section
variable {P : Program} {E : Env} {nt : Nat} {ops : Array Oper} {T : Nat → Option AV} {H : Hp} {d : Option Nat} {ty : TypeId} {pos : String} {af : Array Edge} {gd : Option (Nat × Bool)}
theorem ok_mkifc {t : TypeId} {x : Operand} {y : AV} {F : Array Field} (hu : P.underlying t = some (.struct F)) (hd : dOk nt d = true) (hx : evalO T x = some y) (hnt : notTup y = true) : OpOK P E nt ops ⟨d, .makeInterface t x, ty, pos, af, gd⟩ T H [] ⟨.ifc t y, []⟩ :=
  ok_val hd fun B T' H' a w r ht hh => by
    have h1 := r.eval ((ht x (by simp [Op.operands])).trans hx)
    rw [Rdv_not (notTup_ne hnt)] at h1
    obtain ⟨c, h2, h3⟩ := h1
    refine ⟨.iface t (a.eval x), by simp [execOp, Instr.makeInterface, run_underlying hu], ?_⟩
    rw [Rdv_not (by simp)]
    exact ⟨[_], by simp only [Rd]; exact ⟨c, h2, rfl⟩, by rw [h3]; rfl⟩
/-- of that type -/
theorem ok_assert_y {t xt : TypeId} {x : Operand} {y : AV} {F : Array Field} (hu : P.underlying t = some (.struct F)) (hd : dOk nt d = true) (hx : evalO T x = some (.ifc t y)) (hnt : notTup y = true) : OpOK P E nt ops ⟨d, .typeAssert x xt t true, ty, pos, af, gd⟩ T H [] ⟨.tup [y, boolA true], []⟩ :=
  ok_val hd fun B T' H' a w r ht hh => by
    have h1 := Rdv_one (by simp) (r.eval ((ht x (by simp [Op.operands])).trans hx)) rfl
    simp only [Rd] at h1
    obtain ⟨c, h2, h3⟩ := h1
    injection h3 with h3
    refine ⟨.tuple #[pack y c, .bool true], by simp [execOp, h3, Instr.typeAssert, run_underlying hu], ?_⟩
    rw [Rdv_tup]
    refine ⟨[pack y c, .bool true], rfl, ?_⟩
    simp only [Rdp]
    exact ⟨c, [.bool true], rfl, h2, [.bool true], [], rfl, (rd_v rfl).2 rfl, rfl⟩
def isAggV : Value → Bool
  | .agg _ => true
  | _ => false
/-- of another one -/
theorem ok_assert_n {t s xt : TypeId} {x : Operand} {y : AV} {n : Nat} {fs : List AV} {F : Array Field} (hu : P.underlying t = some (.struct F)) (hd : dOk nt d = true) (hx : evalO T x = some (.ifc s y)) (hne : Nat.beq s t = false) (hz : ZeroOk P t (.agg n fs)) (hzv : ((P.info? t).bind (·.zero)).map isAggV = some true) : OpOK P E nt ops ⟨d, .typeAssert x xt t true, ty, pos, af, gd⟩ T H [] ⟨.tup [.agg n fs, boolA false], []⟩ :=
  ok_val hd fun B T' H' a w r ht hh => by
    have h1 := Rdv_one (by simp) (r.eval ((ht x (by simp [Op.operands])).trans hx)) rfl
    simp only [Rd] at h1
    obtain ⟨c, h2, h3⟩ := h1
    injection h3 with h3
    obtain ⟨i, zv, z1, z2, z3⟩ := hz
    have hst : ¬ s = t := fun e => by subst e; simp at hne
    have hzr := Rd_free (B := B) (H := H') _ (z3 (unst E B H') w)
    refine ⟨.tuple #[zv, .bool false], by simp [execOp, h3, Instr.typeAssert, run_underlying hu, hst, zeroValue, typeInfo, z1, z2], ?_⟩
    rw [Rdv_tup]
    refine ⟨[zv, .bool false], rfl, ?_⟩
    simp only [Rdp]
    refine ⟨zv.cells.toList, [.bool false], ?_, hzr, [.bool false], [], rfl, (rd_v rfl).2 rfl, rfl⟩
    rw [z1] at hzv
    simp only [Option.bind_some, z2, Option.map_some, Option.some.injEq] at hzv
    cases zv <;> first | rfl | cases hzv
theorem ok_invoke {f : FuncId} {fn : Func} {t : TypeId} {x : Operand} {name : String} {l : List Operand} {ats : Array TypeId} {v y : AV} {xs ys : List AV} {F : Array Field} (hd : dOk nt d = true) (hf : P.funcs[f]? = some fn) (hb : fn.body.isSome = true) (hnm : (fn.name == "runtime.NumGoroutine") = false)
    (hu : P.underlying t = some (.struct F)) (hm : (P.info? t).bind (fun i => (i.methods.find? (·.name == name)).map fun m => (m.path.toList.length, m.func)) = some (0, some (f, false))) (hxf : evalO T x = some (.ifc t v)) (hvd : dataA v = true) (hx : l.map (evalO T) = xs.map some) (hc : AFn P f (v :: ys) y) (hw : ∀ H', WkL H' xs ys) (hnt : xs.all notTup = true) :
    OpOK P E nt ops ⟨d, .call { callee := .invoke x name, args := l.toArray, argTypes := ats }, ty, pos, af, gd⟩ T H [] ⟨y, []⟩ := by
  intro T' H' ht _ _ B a w r K Q hK
  have hxs := args_rdp r l xs (map_agree hx (fun y hy => agree_op ht (by simp [Op.operands, Call.operands]; exact .inr hy))) (fun z hz => notTup_ne (List.all_eq_true.1 hnt z hz))
  have hys := (hw H').rdp hxs
  have hfv := Rdv_one (by simp) (r.eval ((agree_op ht (x := x) (by simp [Op.operands, Call.operands])).trans hxf)) rfl
  simp only [Rd] at hfv
  obtain ⟨c, e1, e2⟩ := hfv
  injection e2 with e2
  have hall : Rdp (unst E B H') w (v :: ys) B0 H0 (pack v c :: l.map a.eval) := by
    simp only [Rdp]
    exact ⟨c, _, rfl, Rd_data v hvd e1, hys⟩
  have h2 := hc _ w _ hall
  unfold Oper.wp
  have he : (execOp a.eval ⟨d, .call { callee := .invoke x name, args := l.toArray, argTypes := ats }, ty, pos, af, gd⟩).run P w = .ok (.enter f (pack v c :: l.map a.eval).toArray) w := by
    have hb' : fn.body ≠ none := by cases h : fn.body <;> simp_all
    have hn' : fn.name ≠ "runtime.NumGoroutine" := by simpa using hnm
    have hmr := run_method (v := pack v c) (P.types.size + Made.depth - 1) hm hu w
    rw [show P.types.size + Made.depth - 1 + 1 = P.types.size + Made.depth from by simp [Made.depth]] at hmr
    have ha : (pack v c :: l.map a.eval).toArray = #[pack v c] ++ (l.toArray.map a.eval) := by apply Array.ext'; simp
    rw [ha]
    simp [execOp, resolve, e2, invoke, callMethod, hmr, callFunc, hf, hn', hb']
    exact List.take_of_length_le (by simp)
  rw [he]
  refine Calls.mono h2 ?_
  rintro e w' ⟨u, rfl, h3, h4⟩
  exact hK B _ w' ((r.ext h4).put hd (Rdv_free (Rdv_sub (fun b o h => ⟨r.unst_lt h, h⟩) h3)))
end
section
variable {E : Env} {nt : Nat} {ops : Array Oper} {T : Nat → Option AV} {H : Hp} {d : Option Nat} {ty : TypeId} {pos : String} {af : Array Edge} {gd : Option (Nat × Bool)}
noncomputable def isStructB (t : TypeId) : Bool := match Try.prog.underlying t with
  | some (.struct _) => true
  | _ => false
theorem isStruct_eq {t : TypeId} (h : isStructB t = true) : ∃ F, Try.prog.underlying t = some (.struct F) := by
  unfold isStructB at h
  split at h
  · rename_i F e; exact ⟨F, e⟩
  · cases h
theorem o_mkifc {t : TypeId} {x : Operand} {y : AV} (hd : dOk nt d = true) (hx : evalO T x = some y) (hnt : notTup y = true) (hu : isStructB t = true) : OpOK Try.prog E nt ops ⟨d, .makeInterface t x, ty, pos, af, gd⟩ T H [] ⟨.ifc t y, []⟩ := by
  obtain ⟨F, hF⟩ := isStruct_eq hu
  exact ok_mkifc hF hd hx hnt
theorem o_asy {t xt : TypeId} {x : Operand} {y : AV} (hd : dOk nt d = true) (hx : evalO T x = some (.ifc t y)) (hnt : notTup y = true) (hu : isStructB t = true) : OpOK Try.prog E nt ops ⟨d, .typeAssert x xt t true, ty, pos, af, gd⟩ T H [] ⟨.tup [y, boolA true], []⟩ := by
  obtain ⟨F, hF⟩ := isStruct_eq hu
  exact ok_assert_y hF hd hx hnt
theorem o_asn {t s xt : TypeId} {x : Operand} {y : AV} {n : Nat} {fs : List AV} (hd : dOk nt d = true) (hx : evalO T x = some (.ifc s y)) (hne : Nat.beq s t = false) (hz : zeroT t = some (.agg n fs)) (hu : isStructB t = true) (hzv : ((Try.prog.info? t).bind (·.zero)).map isAggV = some true) : OpOK Try.prog E nt ops ⟨d, .typeAssert x xt t true, ty, pos, af, gd⟩ T H [] ⟨.tup [.agg n fs, boolA false], []⟩ := by
  obtain ⟨F, hF⟩ := isStruct_eq hu
  exact ok_assert_n hF hd hx hne (zeroT_ok hz) hzv
/-- a method by name: the function that stands for it -/
def MCall (t : TypeId) (name : String) (args : List AV) (r : AV) : Prop := ∃ f fn F, Try.prog.funcs[f]? = some fn ∧ fn.body.isSome = true ∧ (fn.name == "runtime.NumGoroutine") = false ∧ Try.prog.underlying t = some (.struct F) ∧ (Try.prog.info? t).bind (fun i => (i.methods.find? (·.name == name)).map fun m => (m.path.toList.length, m.func)) = some (0, some (f, false)) ∧ AFn Try.prog f args r
theorem mcall {t : TypeId} {name : String} {f : FuncId} {fn : Func} {args : List AV} {r : AV} (hf : Try.prog.funcs[f]? = some fn) (hc : AFn Try.prog f args r) (hb : fn.body.isSome = true) (hn : (fn.name == "runtime.NumGoroutine") = false) (hu : isStructB t = true) (hm : (Try.prog.info? t).bind (fun i => (i.methods.find? (·.name == name)).map fun m => (m.path.toList.length, m.func)) = some (0, some (f, false))) : MCall t name args r := by
  obtain ⟨F, hF⟩ := isStruct_eq hu
  exact ⟨f, fn, F, hf, hb, hn, hF, hm, hc⟩
theorem o_minv {t : TypeId} {x : Operand} {name : String} {l : List Operand} {ats : Array TypeId} {v y : AV} {xs ys : List AV} (hd : dOk nt d = true) (hxf : evalO T x = some (.ifc t v)) (hvd : dataA v = true) (hx : argsA T l = some xs) (hw : weakA xs = some ys) (hnt : xs.all notTup = true) (hc : MCall t name (v :: ys) y) :
    OpOK Try.prog E nt ops ⟨d, .call { callee := .invoke x name, args := l.toArray, argTypes := ats }, ty, pos, af, gd⟩ T H [] ⟨y, []⟩ := by
  obtain ⟨f, fn, F, h1, h2, h3, h4, h5, h6⟩ := hc
  exact ok_invoke hd h1 h2 h3 h4 h5 hxf hvd (argsA_map hx) h6 (fun _ => weakA_wkl _ _ hw) hnt
end
end Go.Proofs.Ytcmdhpinelnclaa

namespace Go.Proofs.Ytcmdhpinelnclaa
open Go Go.RowKit
set_option linter.unusedVariables false
set_option linter.unusedSimpArgs false
set_option maxRecDepth 100000

structure Nd.Sm (n : Nd) : Prop where
  es : n.es.length ≤ 100000000
  ks : n.ks.length ≤ 100000000
  ps : n.ps.length ≤ 100000000
  ms : n.ms.length ≤ 100000000
def Nd.kind (n : Nd) : TypeId := if n.leaf = true then 107 else 108
attribute [local irreducible] OpOK AWops AW CondB Go2 AFn thenA inBlockA noGotoA orderOk wantedA
set_option maxRecDepth 100000 in
set_option maxHeartbeats 4000000 in
theorem a_leafright (n : Nd) (h : n.Sm) : AFn Try.prog 111 [n.av] (boolA (leafOk keyCmp n)) := by
  obtain ⟨lf, es, ks, ps, ms⟩ := n
  dsimp only [Nd.av]
  refine AFn_intro Try.func111 rfl Try.ntmps111 rfl (by simp) [_] rfl fun E hE => ?_
  obtain ⟨h1, h2, h3, h4⟩ := h
  unfold leafOk
  dsimp only at h1 h2 h3 h4 ⊢
  have c1 := a_leafcheck es h1
  cases q : entsOkB keyCmp es with
  | false =>
    rw [q] at c1
    have d1 := acall Try.func113 (c1) (by decide +kernel) (by decide +kernel)
    refine wI ?_
    exact fin ⟨res_of rfl rfl rfl, trivial⟩
  | true =>
    rw [q] at c1
    have d1 := acall Try.func113 (c1) (by decide +kernel) (by decide +kernel)
    by_cases c : ks.length + ps.length + ms.length = 0
    · rw [decide_eq_true c]
      refine wI ?_
      exact fin ⟨res_yes rfl (by omega), trivial⟩
    · rw [decide_eq_false c]
      refine wI ?_
      exact fin ⟨res_no rfl (by omega), trivial⟩
set_option maxRecDepth 100000 in
set_option maxHeartbeats 4000000 in
theorem a_innerright (n : Nd) (h : n.Sm) : AFn Try.prog 124 [n.av] (boolA (innerOk keyCmp n)) := by
  obtain ⟨lf, es, ks, ps, ms⟩ := n
  dsimp only [Nd.av]
  refine AFn_intro Try.func124 rfl Try.ntmps124 rfl (by simp) [_] rfl fun E hE => ?_
  obtain ⟨h1, h2, h3, h4⟩ := h
  unfold innerOk
  dsimp only at h1 h2 h3 h4 ⊢
  have c1 := a_fancheck ks ps
  have c2 := a_bufcheck ms h4
  by_cases c : es.length = 0
  · rw [decide_eq_true c]
    cases q : fanOkBy keyCmp ks ps with
    | false =>
      rw [q] at c1
      have d1 := acall Try.func126 (c1) (by decide +kernel) (by decide +kernel)
      refine wI ?_
      exact fin ⟨res_of rfl rfl rfl, trivial⟩
    | true =>
      rw [q] at c1
      have d1 := acall Try.func126 (c1) (by decide +kernel) (by decide +kernel)
      have d2 := acall Try.func127 (c2) (by decide +kernel) (by decide +kernel)
      refine wI ?_
      exact fin ⟨res_of rfl rfl rfl, trivial⟩
  · rw [decide_eq_false c]
    refine wI ?_
    exact fin ⟨res_of rfl rfl rfl, trivial⟩
set_option maxRecDepth 100000 in
set_option maxHeartbeats 4000000 in
theorem a_leafbytesM (n : Nd) (h : n.Sm) (hb : EBd n.es) : AFn Try.prog 110 [n.av] (intA (eSum n.es)) := by
  refine AFn_intro Try.func110 rfl Try.ntmps110 rfl (by simp) [_] rfl fun E hE => ?_
  have d1 := acall Try.func112 (a_leafbytes n.es hb h.es) (by decide +kernel) (by decide +kernel)
  refine wI ?_
  exact fin ⟨res_of rfl rfl rfl, trivial⟩
set_option maxRecDepth 100000 in
set_option maxHeartbeats 4000000 in
theorem a_innerbytesM (n : Nd) (h : n.Sm) : AFn Try.prog 123 [n.av] (intA (bSum n.ms)) := by
  refine AFn_intro Try.func123 rfl Try.ntmps123 rfl (by simp) [_] rfl fun E hE => ?_
  have d1 := acall Try.func125 (a_bufbytes n.ms h.ms) (by decide +kernel) (by decide +kernel)
  refine wI ?_
  exact fin ⟨res_of rfl rfl rfl, trivial⟩
set_option maxRecDepth 100000 in
set_option maxHeartbeats 4000000 in
theorem a_of_leaf (es : List Ent) (ks : List Int) (ps : List Key) (ms : List Msg) : AFn Try.prog 67 [Nd.av ⟨true, es, ks, ps, ms⟩] (.ifc 107 (Nd.av ⟨true, es, ks, ps, ms⟩)) := by
  dsimp only [Nd.av]
  refine AFn_intro Try.func67 rfl Try.ntmps67 rfl (by simp) [_] rfl fun E hE => ?_
  refine wI ?_
  exact fin ⟨res_of rfl rfl rfl, trivial⟩
set_option maxRecDepth 100000 in
set_option maxHeartbeats 4000000 in
theorem a_of_inner (es : List Ent) (ks : List Int) (ps : List Key) (ms : List Msg) : AFn Try.prog 67 [Nd.av ⟨false, es, ks, ps, ms⟩] (.ifc 108 (Nd.av ⟨false, es, ks, ps, ms⟩)) := by
  dsimp only [Nd.av]
  refine AFn_intro Try.func67 rfl Try.ntmps67 rfl (by simp) [_] rfl fun E hE => ?_
  refine wI ?_
  exact fin ⟨res_of rfl rfl rfl, trivial⟩
set_option maxRecDepth 100000 in
set_option maxHeartbeats 4000000 in
theorem a_nodecheck (n : Nd) (h : n.Sm) : AFn Try.prog 68 [n.av] (boolA (nodeOk keyCmp n)) := by
  obtain ⟨lf, es, ks, ps, ms⟩ := n
  dsimp only [Nd.av]
  refine AFn_intro Try.func68 rfl Try.ntmps68 rfl (by simp) [_] rfl fun E hE => ?_
  cases lf with
  | true =>
    have d1 := acall Try.func67 (a_of_leaf es ks ps ms) (by decide +kernel) (by decide +kernel)
    have d2 := mcall (t := 107) (name := "orangery/node.right") Try.func111 (a_leafright _ h) (by decide +kernel) (by decide +kernel) (by decide +kernel) (by decide +kernel)
    refine wI ?_
    exact fin ⟨res_of rfl rfl rfl, trivial⟩
  | false =>
    have d1 := acall Try.func67 (a_of_inner es ks ps ms) (by decide +kernel) (by decide +kernel)
    have d2 := mcall (t := 108) (name := "orangery/node.right") Try.func124 (a_innerright _ h) (by decide +kernel) (by decide +kernel) (by decide +kernel) (by decide +kernel)
    refine wI ?_
    exact fin ⟨res_of rfl rfl rfl, trivial⟩
set_option maxRecDepth 100000 in
set_option maxHeartbeats 4000000 in
theorem a_nodebytes (n : Nd) (h : n.Sm) (hb : n.leaf = true → EBd n.es) : AFn Try.prog 69 [n.av] (intA (ndBytes n)) := by
  obtain ⟨lf, es, ks, ps, ms⟩ := n
  dsimp only [Nd.av]
  refine AFn_intro Try.func69 rfl Try.ntmps69 rfl (by simp) [_] rfl fun E hE => ?_
  cases lf with
  | true =>
    have d1 := acall Try.func67 (a_of_leaf es ks ps ms) (by decide +kernel) (by decide +kernel)
    have d2 := mcall (t := 107) (name := "orangery/node.bytes") Try.func110 (a_leafbytesM _ h (hb rfl)) (by decide +kernel) (by decide +kernel) (by decide +kernel) (by decide +kernel)
    refine wI ?_
    exact fin ⟨res_of rfl rfl rfl, trivial⟩
  | false =>
    have d1 := acall Try.func67 (a_of_inner es ks ps ms) (by decide +kernel) (by decide +kernel)
    have d2 := mcall (t := 108) (name := "orangery/node.bytes") Try.func123 (a_innerbytesM _ h) (by decide +kernel) (by decide +kernel) (by decide +kernel) (by decide +kernel)
    refine wI ?_
    exact fin ⟨res_of rfl rfl rfl, trivial⟩
set_option maxRecDepth 100000 in
set_option maxHeartbeats 4000000 in
theorem a_nodefits (n : Nd) (h : n.Sm) : AFn Try.prog 44 [n.av] (boolA (nodeFits n)) := by
  refine AFn_intro Try.func44 rfl Try.ntmps44 rfl (by simp) [_] rfl fun E hE => ?_
  have c1 := a_nodecheck n h
  have c2 := fun hb => a_nodebytes n h hb
  unfold nodeFits
  have hq := @nodeOk_ebd n
  cases q : nodeOk keyCmp n with
  | false =>
    rw [q] at c1
    have e1 := acall Try.func68 (c1) (by decide +kernel) (by decide +kernel)
    obtain ⟨lf, es, ks, ps, ms⟩ := n
    cases lf with
    | true =>
      have d1 := acall Try.func67 (a_of_leaf es ks ps ms) (by decide +kernel) (by decide +kernel)
      refine wI ?_
      exact fin ⟨res_of rfl rfl rfl, trivial⟩
    | false =>
      have d1 := acall Try.func67 (a_of_inner es ks ps ms) (by decide +kernel) (by decide +kernel)
      refine wI ?_
      exact fin ⟨res_of rfl rfl rfl, trivial⟩
  | true =>
    rw [q] at c1
    have c3 := c2 (hq q)
    have e1 := acall Try.func68 (c1) (by decide +kernel) (by decide +kernel)
    have e2 := acall Try.func69 (c3) (by decide +kernel) (by decide +kernel)
    obtain ⟨lf, es, ks, ps, ms⟩ := n
    cases lf with
    | true =>
      have d1 := acall Try.func67 (a_of_leaf es ks ps ms) (by decide +kernel) (by decide +kernel)
      refine wI ?_
      exact fin ⟨res_of rfl rfl rfl, trivial⟩
    | false =>
      have d1 := acall Try.func67 (a_of_inner es ks ps ms) (by decide +kernel) (by decide +kernel)
      refine wI ?_
      exact fin ⟨res_of rfl rfl rfl, trivial⟩
set_option maxRecDepth 100000 in
set_option maxHeartbeats 4000000 in
theorem a_ref09check (n : Nd) (h : n.Sm) : AFn Try.prog 47 [n.av] (boolA (nodeOk keyCmp n)) := by
  rw [← nodeOk_ref]
  obtain ⟨lf, es, ks, ps, ms⟩ := n
  dsimp only [Nd.av]
  refine AFn_intro Try.func47 rfl Try.ntmps47 rfl (by simp) [_] rfl fun E hE => ?_
  obtain ⟨h1, h2, h3, h4⟩ := h
  unfold nodeOk leafOk innerOk
  dsimp only at h1 h2 h3 h4 ⊢
  cases lf with
  | true =>
    rw [if_pos rfl]
    have c1 := a_ref07check es h1
    cases q : entsOkB refCmp es with
    | false =>
      rw [q] at c1
      have d1 := acall Try.func71 (c1) (by decide +kernel) (by decide +kernel)
      refine wI ?_
      exact fin ⟨res_of rfl rfl rfl, trivial⟩
    | true =>
      rw [q] at c1
      have d1 := acall Try.func71 (c1) (by decide +kernel) (by decide +kernel)
      by_cases e1 : ks.length = 0
      · by_cases e2 : ps.length = 0
        · by_cases e3 : ms.length = 0
          · rw [decide_eq_true (by omega : ks.length + ps.length + ms.length = 0)]
            refine wI ?_
            exact fin ⟨res_yes rfl (by omega), trivial⟩
          · rw [decide_eq_false (by omega : ¬ ks.length + ps.length + ms.length = 0)]
            refine wI ?_
            exact fin ⟨res_no rfl (by omega), trivial⟩
        · rw [decide_eq_false (by omega : ¬ ks.length + ps.length + ms.length = 0)]
          refine wI ?_
          exact fin ⟨res_of rfl rfl rfl, trivial⟩
      · rw [decide_eq_false (by omega : ¬ ks.length + ps.length + ms.length = 0)]
        refine wI ?_
        exact fin ⟨res_of rfl rfl rfl, trivial⟩
  | false =>
    rw [if_neg (by simp)]
    have c1 := a_reffancheck ks ps
    have c2 := a_ref06check ms h4
    by_cases c : es.length = 0
    · rw [decide_eq_true c]
      cases q : fanOkBy refCmp ks ps with
      | false =>
        rw [q] at c1
        have d1 := acall Try.func72 (c1) (by decide +kernel) (by decide +kernel)
        refine wI ?_
        exact fin ⟨res_of rfl rfl rfl, trivial⟩
      | true =>
        rw [q] at c1
        have d1 := acall Try.func72 (c1) (by decide +kernel) (by decide +kernel)
        have d2 := acall Try.func73 (c2) (by decide +kernel) (by decide +kernel)
        refine wI ?_
        exact fin ⟨res_of rfl rfl rfl, trivial⟩
    · rw [decide_eq_false c]
      refine wI ?_
      exact fin ⟨res_of rfl rfl rfl, trivial⟩
set_option maxRecDepth 100000 in
set_option maxHeartbeats 4000000 in
theorem a_ref09bytes (n : Nd) (h : n.Sm) (hb : n.leaf = true → EBd n.es) : AFn Try.prog 48 [n.av] (intA (ndBytes n)) := by
  obtain ⟨lf, es, ks, ps, ms⟩ := n
  dsimp only [Nd.av]
  refine AFn_intro Try.func48 rfl Try.ntmps48 rfl (by simp) [_] rfl fun E hE => ?_
  cases lf with
  | true =>
    have d1 := acall Try.func52 (a_ref07bytes es (hb rfl) h.es) (by decide +kernel) (by decide +kernel)
    refine wI ?_
    exact fin ⟨res_of rfl rfl rfl, trivial⟩
  | false =>
    have d1 := acall Try.func56 (a_ref06bytes ms h.ms) (by decide +kernel) (by decide +kernel)
    refine wI ?_
    exact fin ⟨res_of rfl rfl rfl, trivial⟩
end Go.Proofs.Ytcmdhpinelnclaa

namespace Go.Proofs.Ytcmdhpinelnclaa
open Go Go.RowKit
set_option linter.unusedVariables false
set_option linter.unusedSimpArgs false
set_option maxRecDepth 100000

attribute [local irreducible] OpOK AWops AW CondB Go2 AFn thenA inBlockA noGotoA orderOk wantedA
set_option maxRecDepth 100000 in
set_option maxHeartbeats 4000000 in
theorem a_ref09fits (n : Nd) (h : n.Sm) : AFn Try.prog 21 [n.av] (boolA (nodeFits n)) := by
  have k1 := a_ref09check n h
  have k2 := fun hb => a_ref09bytes n h hb
  have hq := @nodeOk_ebd n
  obtain ⟨lf, es, ks, ps, ms⟩ := n
  dsimp only [Nd.av] at k1 k2 ⊢
  refine AFn_intro Try.func21 rfl Try.ntmps21 rfl (by simp) [_] rfl fun E hE => ?_
  have hnt : (!true) = false := rfl
  have hnf : (!false) = true := rfl
  cases q : nodeOk keyCmp ⟨lf, es, ks, ps, ms⟩ with
  | false =>
    rw [q] at k1
    have d1 := acall Try.func47 (k1) (by decide +kernel) (by decide +kernel)
    rw [show nodeFits ⟨lf, es, ks, ps, ms⟩ = false from by unfold nodeFits; rw [q]; rfl]
    refine wI ?_
    exact fin ⟨res_of rfl rfl rfl, trivial⟩
  | true =>
    have k3 := k2 (hq q)
    clear k2 hq
    rw [q] at k1
    have d1 := acall Try.func47 (k1) (by decide +kernel) (by decide +kernel)
    cases lf with
    | true =>
      rw [show ndBytes ⟨true, es, ks, ps, ms⟩ = eSum es from rfl] at k3
      rw [show nodeFits ⟨true, es, ks, ps, ms⟩ = decide (eSum es ≤ 248) from by unfold nodeFits; rw [q]; rfl]
      generalize eSum es = B at k3 ⊢
      have d2 := acall Try.func48 (k3) (by decide +kernel) (by decide +kernel)
      by_cases c : B ≤ 248
      · rw [decide_eq_true c]
        refine wI ?_
        exact fin ⟨res_of rfl rfl rfl, trivial⟩
      · rw [decide_eq_false c]
        refine wI ?_
        exact fin ⟨res_of rfl rfl rfl, trivial⟩
    | false =>
      rw [show ndBytes ⟨false, es, ks, ps, ms⟩ = bSum ms from rfl] at k3
      rw [show nodeFits ⟨false, es, ks, ps, ms⟩ = decide (bSum ms ≤ 205) from by unfold nodeFits; rw [q]; rfl]
      generalize bSum ms = B at k3 ⊢
      have d2 := acall Try.func48 (k3) (by decide +kernel) (by decide +kernel)
      refine wI ?_
      exact fin ⟨res_of rfl rfl rfl, trivial⟩
end Go.Proofs.Ytcmdhpinelnclaa

namespace Go.Proofs.Ytcmdhpinelnclaa
open Go Go.RowKit
set_option linter.unusedVariables false
set_option linter.unusedSimpArgs false
set_option maxRecDepth 100000

/-- what Encode tells -/
noncomputable def encode (n : Nd) : List (BitVec 8) × Int := if nodeFits n = true then (encB n, 0) else ([], 4)
theorem fits_sm {n : Nd} (h : nodeFits n = true) : n.Sm := by
  obtain ⟨_, _, _, h1, h2, h3, h4⟩ := fits_ndr h
  exact ⟨by omega, by omega, by omega, by omega⟩
attribute [local irreducible] OpOK AWops AW CondB Go2 AFn thenA inBlockA noGotoA orderOk wantedA
set_option maxRecDepth 100000 in
set_option maxHeartbeats 8000000 in
theorem a_cencode (n : Nd) (h : n.Sm) : AFn Try.prog 18 [n.av] (.tup [bytesA (encode n).1, intA (encode n).2]) := by
  have c0 := a_nodefits n h
  cases hf : nodeFits n with
  | false =>
    rw [hf] at c0
    unfold encode
    rw [hf, if_neg (by simp)]
    refine AFn_intro Try.func18 rfl Try.ntmps18 rfl (by simp) [_, _] rfl fun E hE => ?_; have hnt : (!true) = false := rfl; have hnf : (!false) = true := rfl
    have d0 := acall Try.func44 (c0) (by decide +kernel) (by decide +kernel)
    refine wY ?_
    exact fin ⟨res_nil rfl, res_of rfl rfl rfl, trivial⟩
  | true =>
    rw [hf] at c0
    have hr := fits_ndr hf
    have hb := body_len hf
    have hrl := rawB_len hf
    have e1 : (encode n).1 = encB n := by unfold encode; rw [if_pos hf]
    have e2 : (encode n).2 = 0 := by unfold encode; rw [if_pos hf]
    rw [e1, e2]
    clear e1 e2
    have c1 := c_cput (headB n ++ List.replicate 4 0#8) n (by simp [headB_len]) hr
    have e3 : headB n ++ List.replicate 4 0#8 ++ bodyB n ++ List.replicate (256 - ((headB n ++ List.replicate 4 0#8 ++ bodyB n).length : Int)).toNat 0#8 = rawB n := by
      unfold rawB
      congr 2
      simp only [List.length_append, headB_len, List.length_replicate]
      omega
    have hl3 : (headB n ++ List.replicate 4 0#8 ++ bodyB n).length = 8 + (bodyB n).length := by simp only [List.length_append, headB_len, List.length_replicate]
    have c2 := c_csum (rawB n)
    have hhl := headB_len n
    have hel : (encB n).length = (rawB n).length := by rw [encB_len hf, hrl]
    have hs4 := sum4_len (rawB n)
    unfold sum4 at hs4
    cases hlf : n.leaf with
    | true =>
      have eh : headB n = [1#8, BitVec.ofInt 8 (n.es.length : Nat), BitVec.ofInt 8 (n.ms.length : Nat), 0#8] := by unfold headB manyB; rw [hlf, if_pos rfl, if_pos rfl]
      obtain ⟨leaf, es, ks, ps, ms⟩ := n
      obtain rfl : leaf = true := hlf
      dsimp only at eh
      refine AFn_intro Try.func18 rfl Try.ntmps18 rfl (by simp) [_, _] rfl fun E hE => ?_; have hnt : (!true) = false := rfl; have hnf : (!false) = true := rfl
      have d0 := acall Try.func44 (c0) (by decide +kernel) (by decide +kernel)
      have d1 := ccall Try.func45 (c1) (by decide +kernel) (by decide +kernel)
      have d2 := ccall Try.func27 (c2) (by decide +kernel) (by decide +kernel)
      refine wZ ?_
      (apply Wb; (focus (exact ob_bsl (f := byteA) (z := 0#8) [1#8, BitVec.ofInt 8 (es.length : Nat), BitVec.ofInt 8 (ms.length : Nat), 0#8] rfl rfl rfl rfl (by simp only [List.map_cons, List.map_nil, byte0, byte1, byte2]; exact rfl) (by exact rfl) (by intro H'; simp only [List.map_cons, List.map_nil]; (repeat (first | exact wkl0 | refine wkd rfl ?_ | refine wkt ?_ | refine wkn ?_)); done) (by exact rfl) (by exact rfl) (by exact rfl))); (focus (first | exact want_n | exact want_g rfl (by with_reducible rfl))))
      rw [← eh]
      refine wY ?_
      (apply WcN [25] [25]; (focus (exact o_ccall [(1000, 25)] d1 rfl rfl rfl rfl (by repeat (first | exact .nil | refine .cons (.inl ⟨rfl, rfl⟩) ?_ | refine .cons (.inr ⟨rfl, fun _ => Wk.tok⟩) ?_)) (by repeat' (first | exact True.intro | rfl | apply And.intro)) (by repeat' (first | exact True.intro | rfl | apply And.intro)) rfl rfl rfl)); (focus (exact rfl)); (focus (exact rfl)); (focus (first | exact want_n | exact want_g rfl (by with_reducible rfl))))
      refine wY ?_
      rw [e3]
      (apply WvN [25]; (focus (exact o_rcall [(1000, 25)] d2 rfl rfl rfl rfl rfl (by repeat (first | exact .nil | refine .cons (.inl ⟨rfl, rfl⟩) ?_ | refine .cons (.inr ⟨rfl, fun _ => Wk.tok⟩) ?_)) (by repeat' (first | exact True.intro | rfl | apply And.intro)) (by repeat' (first | exact True.intro | rfl | apply And.intro)) rfl rfl)); (focus (exact rfl)); (focus (first | exact want_n | exact want_g rfl (by with_reducible rfl))))
      refine wRG ?_
      refine thenA_n ?_
      refine AW_go (S' := ⟨[(6, .own 25 1 (encB ⟨true, es, ks, ps, ms⟩).length .row)], [(25, .own 5 1 ((encB ⟨true, es, ks, ps, ms⟩).map byteA))]⟩) (by rw [hel]; (refine Go2.sub ⟨?_, ?_, ?_⟩ <;> repeat' (first | exact True.intro | rfl | apply And.intro))) ?_; refine AW_go (Go2.thaw (S' := ⟨[(6, .sl (some 25) 1 ((encB ⟨true, es, ks, ps, ms⟩).map byteA))], [(25, .tail 5 1 ((encB ⟨true, es, ks, ps, ms⟩).map byteA).length)]⟩) 25 rfl (by repeat' (first | exact True.intro | rfl | apply And.intro | (simp; done))) (by repeat' (first | exact True.intro | rfl | apply And.intro | (simp; done))) rfl) ?_
      refine wY ?_
      exact fin ⟨res_sl rfl, res_of rfl rfl rfl, trivial⟩
    | false =>
      have eh : headB n = [2#8, BitVec.ofInt 8 (n.ks.length : Nat), BitVec.ofInt 8 (n.ms.length : Nat), 0#8] := by unfold headB manyB; rw [hlf, if_neg (by simp), if_neg (by simp)]
      obtain ⟨leaf, es, ks, ps, ms⟩ := n
      obtain rfl : leaf = false := hlf
      dsimp only at eh
      refine AFn_intro Try.func18 rfl Try.ntmps18 rfl (by simp) [_, _] rfl fun E hE => ?_; have hnt : (!true) = false := rfl; have hnf : (!false) = true := rfl
      have d0 := acall Try.func44 (c0) (by decide +kernel) (by decide +kernel)
      have d1 := ccall Try.func45 (c1) (by decide +kernel) (by decide +kernel)
      have d2 := ccall Try.func27 (c2) (by decide +kernel) (by decide +kernel)
      refine wZ ?_
      (apply Wb; (focus (exact ob_bsl (f := byteA) (z := 0#8) [2#8, BitVec.ofInt 8 (ks.length : Nat), BitVec.ofInt 8 (ms.length : Nat), 0#8] rfl rfl rfl rfl (by simp only [List.map_cons, List.map_nil, byte0, byte1, byte2]; exact rfl) (by exact rfl) (by intro H'; simp only [List.map_cons, List.map_nil]; (repeat (first | exact wkl0 | refine wkd rfl ?_ | refine wkt ?_ | refine wkn ?_)); done) (by exact rfl) (by exact rfl) (by exact rfl))); (focus (first | exact want_n | exact want_g rfl (by with_reducible rfl))))
      rw [← eh]
      refine wY ?_
      (apply WcN [25] [25]; (focus (exact o_ccall [(1000, 25)] d1 rfl rfl rfl rfl (by repeat (first | exact .nil | refine .cons (.inl ⟨rfl, rfl⟩) ?_ | refine .cons (.inr ⟨rfl, fun _ => Wk.tok⟩) ?_)) (by repeat' (first | exact True.intro | rfl | apply And.intro)) (by repeat' (first | exact True.intro | rfl | apply And.intro)) rfl rfl rfl)); (focus (exact rfl)); (focus (exact rfl)); (focus (first | exact want_n | exact want_g rfl (by with_reducible rfl))))
      refine wY ?_
      rw [e3]
      (apply WvN [25]; (focus (exact o_rcall [(1000, 25)] d2 rfl rfl rfl rfl rfl (by repeat (first | exact .nil | refine .cons (.inl ⟨rfl, rfl⟩) ?_ | refine .cons (.inr ⟨rfl, fun _ => Wk.tok⟩) ?_)) (by repeat' (first | exact True.intro | rfl | apply And.intro)) (by repeat' (first | exact True.intro | rfl | apply And.intro)) rfl rfl)); (focus (exact rfl)); (focus (first | exact want_n | exact want_g rfl (by with_reducible rfl))))
      refine wRG ?_
      refine thenA_n ?_
      refine AW_go (S' := ⟨[(6, .own 25 1 (encB ⟨false, es, ks, ps, ms⟩).length .row)], [(25, .own 5 1 ((encB ⟨false, es, ks, ps, ms⟩).map byteA))]⟩) (by rw [hel]; (refine Go2.sub ⟨?_, ?_, ?_⟩ <;> repeat' (first | exact True.intro | rfl | apply And.intro))) ?_; refine AW_go (Go2.thaw (S' := ⟨[(6, .sl (some 25) 1 ((encB ⟨false, es, ks, ps, ms⟩).map byteA))], [(25, .tail 5 1 ((encB ⟨false, es, ks, ps, ms⟩).map byteA).length)]⟩) 25 rfl (by repeat' (first | exact True.intro | rfl | apply And.intro | (simp; done))) (by repeat' (first | exact True.intro | rfl | apply And.intro | (simp; done))) rfl) ?_
      refine wY ?_
      exact fin ⟨res_sl rfl, res_of rfl rfl rfl, trivial⟩
end Go.Proofs.Ytcmdhpinelnclaa
