/-
  BufPure: buffers as sorted lists of messages: what is found, what a message more makes of them. Plain law.
-/
import Derived.Test.YtigbkhjcboecjaaMsg
namespace Go.Proofs.Ytigbkhjcboecjaa
open Go Go.RowKit
set_option linter.unusedVariables false
set_option linter.unusedSimpArgs false

def bSum (l : List Msg) : Int := (l.map Msg.size).sum
def bfAt (k : Key) (l : List Msg) : Nat := l.countP fun e => decide (e.key.rank < k.rank)
def BSrt (l : List Msg) : Prop := l.Pairwise fun a b => a.key.rank < b.key.rank
structure Bf (l : List Msg) : Prop where
  ok : ∀ m ∈ l, m.ok = true
  srt : BSrt l
/-- a key's message -/
def bfGet (k : Key) (l : List Msg) : Option Msg := l.find? fun e => decide (e.key = k)
def newM (m : Msg) (o : Option Msg) : Msg := match o with
  | some x => composeM x m
  | none => m
def bfSet (l : List Msg) (m : Msg) : List Msg := l.filter (fun e => decide (e.key.rank < m.key.rank)) ++ ([m] ++ l.filter (fun e => decide (m.key.rank < e.key.rank)))
/-- the buffer with a message more -/
def bfAdd (l : List Msg) (m : Msg) : List Msg := bfSet l (newM m (bfGet m.key l))
def bfAll (l ms : List Msg) : List Msg := ms.foldl bfAdd l
theorem composeM_key (o n : Msg) : (composeM o n).key = n.key := by
  unfold composeM
  split
  · rfl
  · split
    · rfl
    · split <;> rfl
theorem newM_key (m : Msg) (o : Option Msg) : (newM m o).key = m.key := by
  cases o with
  | none => rfl
  | some x => exact composeM_key x m

theorem bfAt_le (k : Key) (l : List Msg) : bfAt k l ≤ l.length := List.countP_le_length
theorem bfAt_cons (k : Key) (e : Msg) (l : List Msg) : bfAt k (e :: l) = bfAt k l + if e.key.rank < k.rank then 1 else 0 := by
  unfold bfAt
  rw [List.countP_cons]
  simp
theorem BSrt.tail {e : Msg} {l : List Msg} (h : BSrt (e :: l)) : BSrt l := (List.pairwise_cons.1 h).2
theorem BSrt.head {e : Msg} {l : List Msg} (h : BSrt (e :: l)) : ∀ b ∈ l, e.key.rank < b.key.rank := (List.pairwise_cons.1 h).1
theorem bfAt_zero {k : Key} {l : List Msg} (h : ∀ b ∈ l, k.rank ≤ b.key.rank) : bfAt k l = 0 := by
  unfold bfAt
  rw [List.countP_eq_zero]
  intro b hb
  have := h b hb
  simp; omega
theorem bfAt_iff {k : Key} {l : List Msg} (h : BSrt l) : ∀ i (hi : i < l.length), (i < bfAt k l ↔ l[i].key.rank < k.rank) := by
  induction l with
  | nil => intro i hi; cases hi
  | cons e l ih =>
    intro i hi
    rw [bfAt_cons]
    by_cases c : e.key.rank < k.rank
    · rw [if_pos c]
      cases i with
      | zero => simp [c]
      | succ i => simpa using ih h.tail i (by simpa using hi)
    · rw [if_neg c]
      have hz : bfAt k l = 0 := bfAt_zero fun b hb => by have := h.head b hb; omega
      rw [hz]
      cases i with
      | zero => simp; omega
      | succ i =>
        have hi' : i < l.length := by simpa using hi
        have := h.head l[i] (List.getElem_mem hi')
        simp; omega
theorem BSrt.lt {l : List Msg} (h : BSrt l) {i j : Nat} (hi : i < l.length) (hj : j < l.length) (hij : i < j) : l[i].key.rank < l[j].key.rank := List.pairwise_iff_getElem.1 h i j hi hj hij
theorem BSrt.inj {l : List Msg} (h : BSrt l) {a b : Msg} (ha : a ∈ l) (hb : b ∈ l) (he : a.key.rank = b.key.rank) : a = b := by
  obtain ⟨i, hi, rfl⟩ := List.mem_iff_getElem.1 ha
  obtain ⟨j, hj, rfl⟩ := List.mem_iff_getElem.1 hb
  rcases Nat.lt_trichotomy i j with c | c | c
  · have := h.lt hi hj c; omega
  · subst c; rfl
  · have := h.lt hj hi c; omega
theorem bfGet_iff {l : List Msg} (h : BSrt l) (k : Key) (m : Msg) : bfGet k l = some m ↔ m ∈ l ∧ m.key = k := by
  unfold bfGet
  constructor
  · intro hf
    have h4 := List.find?_some hf
    rw [decide_eq_true_eq] at h4
    exact ⟨List.mem_of_find?_eq_some hf, h4⟩
  · rintro ⟨hm, rfl⟩
    cases hf : l.find? (fun e => decide (e.key = m.key)) with
    | none =>
      rw [List.find?_eq_none] at hf
      have := hf _ hm
      simp at this
    | some e =>
      have h3 := List.mem_of_find?_eq_some hf
      have h4 := List.find?_some hf
      rw [decide_eq_true_eq] at h4
      rw [h.inj h3 hm (by rw [h4])]
theorem bsrt_ext : ∀ {l1 l2 : List Msg}, BSrt l1 → BSrt l2 → (∀ e, e ∈ l1 ↔ e ∈ l2) → l1 = l2
  | [], l2, _, _, h => by
    cases l2 with
    | nil => rfl
    | cons b l => exact absurd ((h b).2 (by simp)) (by simp)
  | a :: l1, [], _, _, h => absurd ((h a).1 (by simp)) (by simp)
  | a :: l1, b :: l2, h1, h2, h => by
    have hab : a = b := by
      have m1 := (h a).1 (by simp)
      have m2 := (h b).2 (by simp)
      rcases List.mem_cons.1 m1 with m1 | m1
      · exact m1
      · rcases List.mem_cons.1 m2 with m2 | m2
        · exact m2.symm
        · have := h2.head a m1
          have := h1.head b m2
          omega
    subst hab
    rw [bsrt_ext h1.tail h2.tail (fun e => ?_)]
    constructor
    · intro he
      rcases List.mem_cons.1 ((h e).1 (List.mem_cons_of_mem _ he)) with c | c
      · subst c; have := h1.head e he; omega
      · exact c
    · intro he
      rcases List.mem_cons.1 ((h e).2 (List.mem_cons_of_mem _ he)) with c | c
      · subst c; have := h2.head e he; omega
      · exact c
theorem bf_ext {l1 l2 : List Msg} (h1 : Bf l1) (h2 : Bf l2) (h : ∀ k, k.ok = true → bfGet k l1 = bfGet k l2) : l1 = l2 := by
  refine bsrt_ext h1.srt h2.srt fun e => ?_
  have a := bfGet_iff h1.srt e.key e
  have b := bfGet_iff h2.srt e.key e
  constructor
  · intro he
    exact (b.1 ((h _ (Msg.spec (h1.ok e he)).2.2.1) ▸ a.2 ⟨he, rfl⟩)).1
  · intro he
    exact (a.1 ((h _ (Msg.spec (h2.ok e he)).2.2.1).symm ▸ b.2 ⟨he, rfl⟩)).1
theorem bget_hit {l : List Msg} (h : BSrt l) {k : Key} {i : Nat} (hi : i < l.length) (he : l[i].key = k) : bfGet k l = some l[i] := by
  rw [bfGet_iff h]
  exact ⟨List.getElem_mem hi, he⟩
theorem bat_hit {l : List Msg} (h : BSrt l) {k : Key} {i : Nat} (hi : i < l.length) (he : l[i].key.rank = k.rank) : bfAt k l = i := by
  have h1 := (bfAt_iff (k := k) h i hi)
  have h3 := bfAt_le k l
  rcases Nat.lt_trichotomy (bfAt k l) i with c | c | c
  · have h4 := (bfAt_iff (k := k) h (bfAt k l) (by omega))
    have := h.lt (by omega) hi c
    omega
  · exact c
  · omega
theorem bget_no {l : List Msg} (h : BSrt l) {k : Key} (hn : ∀ (hi : bfAt k l < l.length), l[bfAt k l].key ≠ k) : bfGet k l = none := by
  cases hg : bfGet k l with
  | none => rfl
  | some v =>
    rw [bfGet_iff h] at hg
    obtain ⟨i, hi, he⟩ := List.mem_iff_getElem.1 hg.1
    have := bat_hit h (k := k) hi (by rw [he, hg.2])
    subst this
    exact absurd (by rw [he, hg.2]) (hn hi)
theorem bget_none {l : List Msg} {k : Key} (hn : ∀ i (hi : i < l.length), l[i].key ≠ k) : bfGet k l = none := by
  unfold bfGet
  rw [List.find?_eq_none]
  intro e he
  obtain ⟨i, hi, rfl⟩ := List.mem_iff_getElem.1 he
  simpa using hn i hi
theorem bflt_lo {k : Key} {l : List Msg} (h : BSrt l) : l.filter (fun e => decide (e.key.rank < k.rank)) = l.take (bfAt k l) := by
  induction l with
  | nil => rfl
  | cons e l ih =>
    rw [bfAt_cons]
    by_cases c : e.key.rank < k.rank
    · rw [if_pos c, List.filter_cons_of_pos (by simpa using c), List.take_succ_cons, ih h.tail]
    · rw [if_neg c, List.filter_cons_of_neg (by simpa using c)]
      have hz : bfAt k l = 0 := bfAt_zero fun b hb => by have := h.head b hb; omega
      rw [ih h.tail, hz]
      rfl
theorem bflt_all {k : Key} {l : List Msg} (h : ∀ b ∈ l, k.rank < b.key.rank) : l.filter (fun e => decide (k.rank < e.key.rank)) = l := by
  rw [List.filter_eq_self]
  intro b hb
  simpa using h b hb
theorem bflt_hi {k : Key} {l : List Msg} (h : BSrt l) : l.filter (fun e => decide (k.rank < e.key.rank)) = l.drop (bfAt k l + if (∃ hi : bfAt k l < l.length, l[bfAt k l].key.rank = k.rank) then 1 else 0) := by
  induction l with
  | nil => simp
  | cons e l ih =>
    by_cases c : e.key.rank < k.rank
    · have e1 : bfAt k (e :: l) = bfAt k l + 1 := by rw [bfAt_cons, if_pos c]
      have e2 : (∃ hi : bfAt k (e :: l) < (e :: l).length, (e :: l)[bfAt k (e :: l)].key.rank = k.rank) ↔ (∃ hi : bfAt k l < l.length, l[bfAt k l].key.rank = k.rank) := by
        simp only [e1]
        constructor
        · rintro ⟨h1, h2⟩; exact ⟨by simpa using h1, by simpa using h2⟩
        · rintro ⟨h1, h2⟩; exact ⟨by simpa using h1, by simpa using h2⟩
      have ih' := ih h.tail
      rw [List.filter_cons_of_neg (by simp; omega), ih']
      by_cases g : ∃ hi : bfAt k l < l.length, l[bfAt k l].key.rank = k.rank
      · rw [if_pos g, if_pos (e2.2 g), e1, show bfAt k l + 1 + 1 = (bfAt k l + 1) + 1 from rfl, List.drop_succ_cons]
      · rw [if_neg g, if_neg (fun x => g (e2.1 x)), e1, Nat.add_zero, Nat.add_zero, List.drop_succ_cons]
    · have hz : bfAt k l = 0 := bfAt_zero fun b hb => by have := h.head b hb; omega
      have e1 : bfAt k (e :: l) = 0 := by rw [bfAt_cons, if_neg c, hz]
      rw [e1]
      by_cases d : e.key.rank = k.rank
      · rw [if_pos ⟨by simp [e1], by simpa [e1] using d⟩, List.filter_cons_of_neg (by simp; omega), bflt_all (fun b hb => by have := h.head b hb; omega)]
        rfl
      · rw [if_neg (fun ⟨_, h2⟩ => d (by simpa [e1] using h2)), bflt_all (fun b hb => by
          rcases List.mem_cons.1 hb with rfl | hb
          · omega
          · have := h.head b hb; omega)]
        rfl
theorem add_hit {l : List Msg} (h : BSrt l) (m : Msg) (hi : bfAt m.key l < l.length) (he : l[bfAt m.key l].key = m.key) : bfAdd l m = l.take (bfAt m.key l) ++ ([composeM l[bfAt m.key l] m] ++ l.drop (bfAt m.key l + 1)) := by
  unfold bfAdd bfSet
  rw [newM_key, bget_hit h hi he, bflt_lo h, bflt_hi h, if_pos ⟨hi, by rw [he]⟩]
  rfl
theorem add_no {l : List Msg} (h : Bf l) (m : Msg) (hk : m.key.ok = true) (hn : ∀ (hi : bfAt m.key l < l.length), l[bfAt m.key l].key ≠ m.key) : bfAdd l m = l.take (bfAt m.key l) ++ ([m] ++ l.drop (bfAt m.key l)) := by
  unfold bfAdd bfSet
  rw [newM_key, bget_no h.srt hn, bflt_lo h.srt, bflt_hi h.srt, if_neg]
  · rfl
  · rintro ⟨hi, h2⟩
    exact hn hi ((rank_inj (Msg.spec (h.ok _ (List.getElem_mem hi))).2.2.1 hk).1 h2)
theorem mem_bset {l : List Msg} {m e : Msg} : e ∈ bfSet l m ↔ (e ∈ l ∧ e.key.rank ≠ m.key.rank) ∨ e = m := by
  unfold bfSet
  simp only [List.mem_append, List.mem_filter, decide_eq_true_eq, List.mem_singleton]
  constructor
  · rintro (⟨h1, h2⟩ | h1 | ⟨h1, h2⟩)
    · exact .inl ⟨h1, by omega⟩
    · exact .inr h1
    · exact .inl ⟨h1, by omega⟩
  · rintro (⟨h1, h2⟩ | h1)
    · rcases Nat.lt_or_gt_of_ne h2 with c | c
      · exact .inl ⟨h1, c⟩
      · exact .inr (.inr ⟨h1, c⟩)
    · exact .inr (.inl h1)
theorem srt_bset {l : List Msg} (h : BSrt l) (m : Msg) : BSrt (bfSet l m) := by
  unfold BSrt bfSet
  rw [List.pairwise_append, List.pairwise_append]
  refine ⟨h.sublist List.filter_sublist, ⟨List.pairwise_singleton .., h.sublist List.filter_sublist, fun a ha b hb => ?_⟩, fun a ha b hb => ?_⟩
  · rw [List.mem_singleton.1 ha]
    simpa using (List.mem_filter.1 hb).2
  · have h1 : a.key.rank < m.key.rank := by simpa using (List.mem_filter.1 ha).2
    rcases List.mem_append.1 hb with hb | hb
    · rw [List.mem_singleton.1 hb]; exact h1
    · have h2 : m.key.rank < b.key.rank := by simpa using (List.mem_filter.1 hb).2
      omega
theorem bf_set {l : List Msg} (h : Bf l) {m : Msg} (hm : m.ok = true) : Bf (bfSet l m) := by
  refine ⟨fun e he => ?_, srt_bset h.srt m⟩
  rcases mem_bset.1 he with ⟨h1, _⟩ | rfl
  · exact h.ok e h1
  · exact hm
theorem get_bset {l : List Msg} (h : Bf l) {m : Msg} (hm : m.ok = true) {x : Key} (hx : x.ok = true) : bfGet x (bfSet l m) = if x = m.key then some m else bfGet x l := by
  apply Option.ext
  intro v
  rw [bfGet_iff (srt_bset h.srt m), mem_bset]
  by_cases c : x = m.key
  · rw [if_pos c]; subst c
    simp only [Option.some.injEq]
    constructor
    · rintro ⟨h1 | h1, h2⟩
      · rw [h2] at h1; exact absurd rfl h1.2
      · exact h1.symm
    · intro h1; subst h1; exact ⟨.inr rfl, rfl⟩
  · rw [if_neg c, bfGet_iff h.srt]
    have : x.rank ≠ m.key.rank := fun e => c ((rank_inj hx (Msg.spec hm).2.2.1).1 e)
    constructor
    · rintro ⟨h1 | h1, h2⟩
      · exact ⟨h1.1, h2⟩
      · rw [h1] at h2; exact absurd h2.symm c
    · rintro ⟨h1, h2⟩
      exact ⟨.inl ⟨h1, by rw [h2]; exact this⟩, h2⟩
theorem vplus_ok' (v : Vl) (n : BitVec 64) : (vplus v n).ok = true := fromN_ok _
theorem Msg.mkOk {k : Int} {s : BitVec 64} {key : Key} {v : Vl} {n : BitVec 64} (h1 : 1 ≤ k ∧ k ≤ 3) (hk : key.ok = true) (hv : if k = 1 then v.ok = true else v = Vl.zero) (hn : k ≠ 3 → n = 0#64) : (⟨k, s, key, v, n⟩ : Msg).ok = true := by
  unfold Msg.ok
  by_cases c : k = 1
  · rw [if_pos c] at hv
    simp [c, hk, hv, hn (by omega)]
  · rw [if_neg c] at hv
    by_cases d : k = 3
    · simp [d, hk, hv]
    · simp [c, d, hk, hv, hn d, h1.1, h1.2]
theorem composeM_ok {o n : Msg} (ho : o.ok = true) (hn : n.ok = true) : (composeM o n).ok = true := by
  have hs := Msg.spec ho
  have hs2 := Msg.spec hn
  unfold composeM
  split
  · exact hn
  · split
    · exact Msg.mkOk ⟨by omega, by omega⟩ hs2.2.2.1 (by rw [if_pos rfl]; exact vplus_ok' _ _) (fun _ => rfl)
    · split
      · exact Msg.mkOk ⟨by omega, by omega⟩ hs2.2.2.1 (by rw [if_pos rfl]; exact fromN_ok _) (fun _ => rfl)
      · exact Msg.mkOk ⟨by omega, by omega⟩ hs2.2.2.1 (by rw [if_neg (by omega)]) (fun h => absurd rfl h)
theorem newM_ok {m : Msg} (hm : m.ok = true) {o : Option Msg} (ho : ∀ x, o = some x → x.ok = true) : (newM m o).ok = true := by
  cases o with
  | none => exact hm
  | some x => exact composeM_ok (ho x rfl) hm
theorem bget_ok {l : List Msg} (h : Bf l) (k : Key) : ∀ x, bfGet k l = some x → x.ok = true := fun x hx => h.ok _ ((bfGet_iff h.srt k x).1 hx).1
theorem bf_add {l : List Msg} (h : Bf l) {m : Msg} (hm : m.ok = true) : Bf (bfAdd l m) := bf_set h (newM_ok hm (bget_ok h _))
theorem get_add {l : List Msg} (h : Bf l) {m : Msg} (hm : m.ok = true) {x : Key} (hx : x.ok = true) : bfGet x (bfAdd l m) = if x = m.key then some (newM m (bfGet m.key l)) else bfGet x l := by
  unfold bfAdd
  rw [get_bset h (newM_ok hm (bget_ok h _)) hx, newM_key]
theorem bf_all {ms : List Msg} : ∀ {l : List Msg}, Bf l → (∀ m ∈ ms, m.ok = true) → Bf (bfAll l ms) := by
  induction ms with
  | nil => intro l h _; exact h
  | cons m ms ih => intro l h hm; exact ih (bf_add h (hm m (by simp))) (fun x hx => hm x (List.mem_cons_of_mem _ hx))
theorem bf_nil : Bf [] := ⟨(fun e h => by cases h), List.Pairwise.nil⟩
theorem bset_len {l : List Msg} (m : Msg) : (bfSet l m).length ≤ l.length + 1 := by
  unfold bfSet
  have h2 : (l.filter (fun e => decide (e.key.rank < m.key.rank))).length + (l.filter (fun e => decide (m.key.rank < e.key.rank))).length ≤ l.length := by
    induction l with
    | nil => simp
    | cons e l ih =>
      simp only [List.filter_cons]
      split <;> split <;> simp_all <;> omega
  simp only [List.length_append, List.length_singleton]
  omega
theorem add_len (l : List Msg) (m : Msg) : (bfAdd l m).length ≤ l.length + 1 := bset_len _
theorem ball_len : ∀ (ms : List Msg) (l : List Msg), (bfAll l ms).length ≤ l.length + ms.length
  | [], l => by simp [bfAll]
  | m :: ms, l => by
    have h1 := ball_len ms (bfAdd l m)
    have h2 := add_len l m
    simp only [bfAll, List.foldl_cons, List.length_cons] at h1 ⊢
    omega
theorem bSum_append (a b : List Msg) : bSum (a ++ b) = bSum a + bSum b := by simp [bSum]
theorem bSum_snoc (l : List Msg) (j : Nat) (h : j < l.length) : bSum (l.take (j + 1)) = bSum (l.take j) + l[j].size := by
  rw [← List.take_append_getElem h, bSum_append]
  simp [bSum]
theorem Msg.size_le (m : Msg) : 0 ≤ m.size ∧ m.size ≤ 35 := by
  unfold Msg.size
  cases h : m.ok with
  | false => simp
  | true =>
    have hs := Msg.spec h
    have h1 := Key.n_le hs.2.2.1
    have h2 := Vl.n_le hs.2.2.2.1
    rw [if_pos rfl]
    split
    · omega
    · split <;> omega
theorem bSum_le : ∀ (l : List Msg), 0 ≤ bSum l ∧ bSum l ≤ 35 * (l.length : Int)
  | [] => by simp [bSum]
  | e :: l => by
    have h1 := bSum_le l
    have h2 := e.size_le
    have h3 : bSum (e :: l) = e.size + bSum l := by simp [bSum]
    rw [h3]
    simp only [List.length_cons]
    omega
end Go.Proofs.Ytigbkhjcboecjaa
