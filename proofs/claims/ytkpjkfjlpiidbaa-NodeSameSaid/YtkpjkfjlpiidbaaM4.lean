/-
  M4: several texts as one: BufWalks, BufMore, BufMore2, BufParts, AfnFan0, AfnFan, AfnRef8, AfnPlace, AfnLaw00, FanRise, BufChecks, LeafPure, LeafWalks, LeafPut, LeafPut2, LeafMore, LeafCheck, AfnInner, AfnTwo, BufLaws, BufAcc, NodePure, AbsStr, LawVal, LawMsgs, LawEnts, NodeLaw, NodeEq, AbsIfc, NodeWalks, NodeWalks2. No condition beyond those that each theorem states.
-/
import Derived.Test.YtkpjkfjlpiidbaaM3
namespace Go.Proofs.Ytkpjkfjlpiidbaa
open Go Go.RowKit
set_option linter.unusedVariables false
set_option linter.unusedSimpArgs false
set_option maxRecDepth 100000

/-- what the document's loop has put out behind j entries -/
def outM {α : Type} (l : List α) (p q : Nat) (new : List α) (j : Nat) : List α := l.take (min j p) ++ ((if p < j then new else []) ++ (l.take j).drop q)
theorem outM_zero {α : Type} (l : List α) (p q : Nat) (new : List α) : outM l p q new 0 = [] := by simp [outM]
theorem outM_lo {α : Type} {l : List α} {p q : Nat} {new : List α} {j : Nat} (hp : p ≤ q) (hj : j < p) (hl : j < l.length) : outM l p q new (j + 1) = outM l p q new j ++ [l[j]] := by
  unfold outM
  rw [if_neg (by omega), if_neg (by omega), Nat.min_eq_left (by omega), Nat.min_eq_left (by omega), List.drop_eq_nil_of_le (by simp; omega), List.drop_eq_nil_of_le (by simp; omega)]
  simp only [List.append_nil]
  exact (List.take_append_getElem hl).symm
theorem drop_take_snocM {α : Type} {l : List α} {q j : Nat} (hq : q ≤ j) (hl : j < l.length) : (l.take (j + 1)).drop q = (l.take j).drop q ++ [l[j]] := by
  rw [← List.take_append_getElem hl, List.drop_append_of_le_length (by simp; omega)]
theorem outM_no {α : Type} {l : List α} {p : Nat} {new : List α} (hl : p < l.length) : outM l p p new (p + 1) = (outM l p p new p ++ new) ++ [l[p]] := by
  unfold outM
  rw [if_pos (by omega), if_neg (by omega), Nat.min_eq_right (by omega), Nat.min_self, drop_take_snocM (Nat.le_refl _) hl, List.drop_eq_nil_of_le (by simp; omega)]
  simp
theorem outM_hit {α : Type} {l : List α} {p : Nat} {new : List α} (hl : p < l.length) : outM l p (p + 1) new (p + 1) = outM l p (p + 1) new p ++ new := by
  unfold outM
  rw [if_pos (by omega), if_neg (by omega), Nat.min_eq_right (by omega), Nat.min_self, List.drop_eq_nil_of_le (by simp; omega), List.drop_eq_nil_of_le (by simp; omega)]
  simp
theorem outM_hi {α : Type} {l : List α} {p q : Nat} {new : List α} {j : Nat} (hq : q ≤ j) (hj : p < j) (hl : j < l.length) : outM l p q new (j + 1) = outM l p q new j ++ [l[j]] := by
  unfold outM
  rw [if_pos (by omega), if_pos (by omega), Nat.min_eq_right (by omega), Nat.min_eq_right (by omega), drop_take_snocM hq hl]
  simp
theorem outM_end {α : Type} {l : List α} {p q : Nat} {new : List α} (hp : p < l.length) : outM l p q new l.length = l.take p ++ (new ++ l.drop q) := by
  unfold outM
  rw [if_pos hp, Nat.min_eq_right (by omega), List.take_length]
theorem outM_end' {α : Type} {l : List α} {p q : Nat} {new : List α} (hp : p = l.length) (hq : p ≤ q) : outM l p q new l.length ++ new = l.take p ++ (new ++ l.drop q) := by
  unfold outM
  rw [if_neg (by omega), Nat.min_eq_left (by omega), List.take_length, List.drop_eq_nil_of_le (by omega)]
  subst hp
  simp
theorem outM_len {α : Type} {l : List α} {p q : Nat} {new : List α} (j : Nat) (hn : new.length ≤ 1) : (outM l p q new j).length ≤ 2 * l.length + 1 := by
  unfold outM
  simp only [List.length_append, List.length_take, List.length_drop]
  split <;> simp <;> omega
attribute [local irreducible] OpOK AWops AW CondB Go2 AFn thenA inBlockA noGotoA orderOk wantedA
set_option maxRecDepth 100000 in
set_option maxHeartbeats 8000000 in
theorem a_ref06add (l : List Msg) (m : Msg) (h : Bf l) (hm : m.key.ok = true) (hl : l.length ≤ 1000000000) : AFn Try.prog 58 [msgsA l, m.av] (msgsA (bfAdd l m)) := by
  refine AFn_intro Try.func58 rfl Try.ntmps58 rfl (by simp) [_] rfl fun E hE => ?_
  have hnt : (!true) = false := rfl
  have hnf : (!false) = true := rfl
  have hple := bfAt_le m.key l
  have hlo : ∀ j (hj : j < l.length), j < bfAt m.key l → refCmp l[j].key m.key < 0 := fun j hj c => by
    rw [refCmp_rank (Msg.spec (h.ok _ (List.getElem_mem hj))).2.2.1 hm, sgn_neg]; exact (bfAt_iff h.srt j hj).1 c
  have hhi : ∀ j (hj : j < l.length), bfAt m.key l < j → 0 < refCmp l[j].key m.key := fun j hj c => by
    rw [refCmp_rank (Msg.spec (h.ok _ (List.getElem_mem hj))).2.2.1 hm, sgn_pos]
    have h1 := h.srt.lt (by omega) hj c
    have h2 := bfAt_iff (k := m.key) h.srt (bfAt m.key l) (by omega)
    omega
  by_cases e : ∃ hi : bfAt m.key l < l.length, l[bfAt m.key l].key = m.key
  · obtain ⟨hi, e⟩ := e
    rw [add_hit h.srt m hi e]
    have h0 : refCmp l[bfAt m.key l].key m.key = 0 := by rw [refCmp_rank (Msg.spec (h.ok _ (List.getElem_mem hi))).2.2.1 hm, e, sgn_same]
    generalize bfAt m.key l = p at hi e h0 hlo hhi hple ⊢
    refine wB ?_
    refine AW_go (Go2.token 5 5 28 48 rfl rfl) ?_
    refine AW_loopI (fun j : Nat => ⟨[(0, msgsA l), (3, .ptr 3 0 []), (5, .sl (some 5) 29 ((outM l p (p + 1) [composeM l[p] m] j).map Msg.av)), (6, boolA (decide (p < j))), (7, intA j)], [(3, .var m.av), (5, .tail 48 29 (outM l p (p + 1) [composeM l[p] m] j).length)]⟩) (fun j => j ≤ l.length) (fun j => l.length - j) 0 (Nat.zero_le _) (by rw [outM_zero, decide_eq_false (Nat.not_lt_zero p)]; (refine Go2.sub ⟨?_, ?_, ?_⟩ <;> repeat' (first | exact True.intro | rfl | apply And.intro))) (fun j hj => ?_)
    have hol := outM_len (l := l) (p := p) (q := p + 1) (new := [composeM l[p] m]) j (by simp)
    by_cases c : j < l.length
    · have d3 := acall Try.func55 (a_refcmp l[j].key m.key) (by decide +kernel) (by decide +kernel)
      rcases Nat.lt_trichotomy j p with c1 | c1 | c1
      · have hc := hlo j c c1
        have hs := outM_lo (new := [composeM l[p] m]) (Nat.le_succ p) c1 c
        refine wB ?_
        refine ⟨j + 1, c, by omega, ?_⟩
        rw [hs, show decide (p < j + 1) = decide (p < j) from by rw [decide_eq_false (by omega), decide_eq_false (by omega)]]
        (refine Go2.sub ⟨?_, ?_, ?_⟩ <;> repeat' (first | exact True.intro | rfl | apply And.intro))
      · obtain rfl : j = p := c1
        have hs := outM_hit (new := [composeM l[j] m]) c
        have d4 := acall Try.func68 (a_refcompose l[j] m) (by decide +kernel) (by decide +kernel)
        refine wB ?_
        refine ⟨j + 1, c, by omega, ?_⟩
        rw [hs, decide_eq_true (Nat.lt_succ_self j)]
        (refine Go2.sub ⟨?_, ?_, ?_⟩ <;> repeat' (first | exact True.intro | rfl | apply And.intro))
      · have hc := hhi j c c1
        have hb : (!decide (p < j)) = false := by simp; omega
        have hs := outM_hi (new := [composeM l[p] m]) (show p + 1 ≤ j by omega) c1 c
        refine wB ?_
        refine ⟨j + 1, c, by omega, ?_⟩
        rw [hs, show decide (p < j + 1) = decide (p < j) from by rw [decide_eq_true (by omega), decide_eq_true (by omega)]]
        (refine Go2.sub ⟨?_, ?_, ?_⟩ <;> repeat' (first | exact True.intro | rfl | apply And.intro))
    · obtain rfl : j = l.length := by omega
      have hb : (!decide (p < l.length)) = false := by simp; omega
      rw [← outM_end hi]
      refine wB ?_
      exact fin ⟨res_sl rfl, trivial⟩
  · have hn : ∀ hi : bfAt m.key l < l.length, l[bfAt m.key l].key ≠ m.key := fun hi e' => e ⟨hi, e'⟩
    rw [add_no h m hm hn]
    have h0 : ∀ hi : bfAt m.key l < l.length, 0 < refCmp l[bfAt m.key l].key m.key := fun hi => by
      have ho := (Msg.spec (h.ok _ (List.getElem_mem hi))).2.2.1
      rw [refCmp_rank ho hm, sgn_pos]
      have h1 := (bfAt_iff (k := m.key) h.srt _ hi)
      have h2 : l[bfAt m.key l].key.rank ≠ m.key.rank := fun e' => hn hi ((rank_inj ho hm).1 e')
      omega
    generalize bfAt m.key l = p at h0 hlo hhi hple hn ⊢
    refine wB ?_
    refine AW_go (Go2.token 5 5 28 48 rfl rfl) ?_
    refine AW_loopI (fun j : Nat => ⟨[(0, msgsA l), (3, .ptr 3 0 []), (5, .sl (some 5) 29 ((outM l p p [m] j).map Msg.av)), (6, boolA (decide (p < j))), (7, intA j)], [(3, .var m.av), (5, .tail 48 29 (outM l p p [m] j).length)]⟩) (fun j => j ≤ l.length) (fun j => l.length - j) 0 (Nat.zero_le _) (by rw [outM_zero, decide_eq_false (Nat.not_lt_zero p)]; (refine Go2.sub ⟨?_, ?_, ?_⟩ <;> repeat' (first | exact True.intro | rfl | apply And.intro))) (fun j hj => ?_)
    have hol := outM_len (l := l) (p := p) (q := p) (new := [m]) j (by simp)
    by_cases c : j < l.length
    · have d3 := acall Try.func55 (a_refcmp l[j].key m.key) (by decide +kernel) (by decide +kernel)
      rcases Nat.lt_trichotomy j p with c1 | c1 | c1
      · have hc := hlo j c c1
        have hs := outM_lo (new := [m]) (Nat.le_refl p) c1 c
        refine wB ?_
        refine ⟨j + 1, c, by omega, ?_⟩
        rw [hs, show decide (p < j + 1) = decide (p < j) from by rw [decide_eq_false (by omega), decide_eq_false (by omega)]]
        (refine Go2.sub ⟨?_, ?_, ?_⟩ <;> repeat' (first | exact True.intro | rfl | apply And.intro))
      · obtain rfl : j = p := c1
        have hs := outM_no (new := [m]) c
        have hc := h0 c
        have hb : (!decide (j < j)) = true := by simp
        have hn1 : (outM l j j [m] j ++ [m]).length ≤ 2 * l.length + 2 := by simp; omega
        refine wB ?_
        refine ⟨j + 1, c, by omega, ?_⟩
        rw [hs, decide_eq_true (Nat.lt_succ_self j)]
        (refine Go2.sub ⟨?_, ?_, ?_⟩ <;> repeat' (first | exact True.intro | rfl | apply And.intro))
      · have hc := hhi j c c1
        have hb : (!decide (p < j)) = false := by simp; omega
        have hs := outM_hi (new := [m]) (show p ≤ j by omega) c1 c
        refine wB ?_
        refine ⟨j + 1, c, by omega, ?_⟩
        rw [hs, show decide (p < j + 1) = decide (p < j) from by rw [decide_eq_true (by omega), decide_eq_true (by omega)]]
        (refine Go2.sub ⟨?_, ?_, ?_⟩ <;> repeat' (first | exact True.intro | rfl | apply And.intro))
    · obtain rfl : j = l.length := by omega
      by_cases e : p < l.length
      · have hb : (!decide (p < l.length)) = false := by simp; omega
        rw [← outM_end e]
        refine wB ?_
        exact fin ⟨res_sl rfl, trivial⟩
      · have hb : (!decide (p < l.length)) = true := by simp; omega
        have hs := outM_end' (new := [m]) (show p = l.length by omega) (Nat.le_refl p)
        rw [← hs]
        refine wB ?_
        exact fin ⟨res_sl rfl, trivial⟩
set_option maxRecDepth 100000 in
set_option maxHeartbeats 8000000 in
theorem a_ref06bytes (l : List Msg) (hl : l.length ≤ 100000000) : AFn Try.prog 27 [msgsA l] (intA (bSum l)) := by
  refine AFn_intro Try.func27 rfl Try.ntmps27 rfl (by simp) [_] rfl fun E hE => ?_
  refine wB ?_
  refine AW_loopI (fun j : Nat => ⟨[(0, msgsA l), (3, intA (bSum (l.take j))), (4, intA j)], []⟩) (fun j => j ≤ l.length) (fun j => l.length - j) 0 (Nat.zero_le _) (by (refine Go2.sub ⟨?_, ?_, ?_⟩ <;> repeat' (first | exact True.intro | rfl | apply And.intro))) (fun j hj => ?_)
  have hb := bSum_le (l.take j)
  rw [List.length_take] at hb
  by_cases c : j < l.length
  · have hs := bSum_snoc l j c
    have he := l[j].size_le
    have d1 := acall Try.func51 (a_ref05bytes l[j]) (by decide +kernel) (by decide +kernel)
    refine wB ?_
    refine ⟨j + 1, c, by omega, ?_⟩
    rw [hs]
    (refine Go2.sub ⟨?_, ?_, ?_⟩ <;> repeat' (first | exact True.intro | rfl | apply And.intro))
  · obtain rfl : j = l.length := by omega
    rw [List.take_length]
    refine wB ?_
    exact fin ⟨res_of rfl rfl rfl, trivial⟩
theorem bfAll_snoc (l ms : List Msg) (j : Nat) (h : j < ms.length) : bfAll l (ms.take (j + 1)) = bfAdd (bfAll l (ms.take j)) ms[j] := by
  unfold bfAll
  rw [← List.take_append_getElem h, List.foldl_append]
  rfl
end Go.Proofs.Ytkpjkfjlpiidbaa

namespace Go.Proofs.Ytkpjkfjlpiidbaa
open Go Go.RowKit
set_option linter.unusedVariables false
set_option linter.unusedSimpArgs false
set_option maxRecDepth 100000

def opM (o : Option Msg) : Msg × Bool := match o with
  | some m => (m, true)
  | none => (Msg.zero, false)
/-- messages of a buffer, by neighbours -/
def MsgsOk (cmp : Key → Key → Int) (l : List Msg) : Prop := ∀ j (h : j < l.length), l[j].ok = true ∧ ∀ i (hi : i + 1 = j), cmp (l[i]'(by omega)).key l[j].key < 0
noncomputable def msgsOkB (cmp : Key → Key → Int) (l : List Msg) : Bool := @decide (MsgsOk cmp l) (Classical.propDecidable _)
theorem msgsOkB_true {cmp : Key → Key → Int} {l : List Msg} (h : MsgsOk cmp l) : msgsOkB cmp l = true := by unfold msgsOkB; exact @decide_eq_true _ (Classical.propDecidable _) h
theorem msgsOkB_false {cmp : Key → Key → Int} {l : List Msg} (h : ¬ MsgsOk cmp l) : msgsOkB cmp l = false := by unfold msgsOkB; exact @decide_eq_false _ (Classical.propDecidable _) h
theorem msgsOk_ref (l : List Msg) : MsgsOk refCmp l ↔ MsgsOk keyCmp l := by
  constructor <;>
  · intro h j hj
    obtain ⟨h1, h3⟩ := h j hj
    refine ⟨h1, fun i hi => ?_⟩
    have := h3 i hi
    first
      | rwa [refCmp_key (Msg.spec (h i (by omega)).1).2.2.1 (Msg.spec h1).2.2.1] at this
      | rwa [refCmp_key (Msg.spec (h i (by omega)).1).2.2.1 (Msg.spec h1).2.2.1]
theorem msgsOkB_ref (l : List Msg) : msgsOkB refCmp l = msgsOkB keyCmp l := by
  by_cases c : MsgsOk keyCmp l
  · rw [msgsOkB_true c, msgsOkB_true ((msgsOk_ref l).2 c)]
  · rw [msgsOkB_false c, msgsOkB_false (fun h => c ((msgsOk_ref l).1 h))]
theorem Bf.msgs {l : List Msg} (h : Bf l) : MsgsOk keyCmp l := fun j hj => ⟨h.ok _ (List.getElem_mem hj), fun i hi => by
  rw [keyCmp_rank, sgn_neg]; exact h.srt.lt (by omega) hj (by omega)⟩
theorem msgsOk_nok {cmp : Key → Key → Int} {l : List Msg} {j : Nat} (h : j < l.length) (e : l[j].ok = false) : ¬ MsgsOk cmp l := fun k => by
  have := (k j h).1
  rw [e] at this; cases this
theorem msgsOk_noc {cmp : Key → Key → Int} {l : List Msg} {i : Nat} (h : i + 1 < l.length) (e : 0 ≤ cmp l[i].key l[i + 1].key) : ¬ MsgsOk cmp l := fun k => by
  have := (k (i + 1) h).2 i rfl
  omega
theorem av_one (s : BitVec 64) (k : Key) (v : Vl) : (⟨1, s, k, v, 0#64⟩ : Msg).av = .agg 29 [intA 1, u64A s, k.av, v.av, .v (.int .u64 0)] := by
  unfold Msg.av u64A; rw [D64_zero]
theorem res_yes {P : Program} {S : St} {t : Nat} {p : Prop} [Decidable p] (hx : S.t t = some (.v (.bool (decide p)))) (hp : p) : Res1 P S (.tmp t) (boolA true) := res_of (by rw [hx, decide_eq_true hp]; rfl) rfl rfl
theorem res_no {P : Program} {S : St} {t : Nat} {p : Prop} [Decidable p] (hx : S.t t = some (.v (.bool (decide p)))) (hp : ¬ p) : Res1 P S (.tmp t) (boolA false) := res_of (by rw [hx, decide_eq_false hp]; rfl) rfl rfl
attribute [local irreducible] OpOK AWops AW CondB Go2 AFn thenA inBlockA noGotoA orderOk wantedA
set_option maxRecDepth 100000 in
set_option maxHeartbeats 4000000 in
theorem a_msgcheck (m : Msg) : AFn Try.prog 69 [m.av] (boolA m.ok) := by
  refine AFn_intro Try.func69 rfl Try.ntmps69 rfl (by simp) [_] rfl fun E hE => ?_
  have c1 := acall Try.func75 (a_keycheck m.key) (by decide +kernel) (by decide +kernel)
  have c2 := acall Try.func76 (a_vlcheck m.val) (by decide +kernel) (by decide +kernel)
  by_cases p : m.kind = 1
  · cases hk : m.key.ok with
    | false =>
      rw [Msg.nok hk]
      rw [hk] at c1
      refine wC ?_
      exact fin ⟨res_of rfl rfl rfl, trivial⟩
    | true =>
      rw [hk] at c1
      cases hv : m.val.ok with
      | false =>
        rw [Msg.nov p hv]
        rw [hv] at c2
        refine wC ?_
        exact fin ⟨res_of rfl rfl rfl, trivial⟩
      | true =>
        rw [Msg.okPut p hk hv]
        rw [hv] at c2
        refine wC ?_
        exact fin ⟨res_of rfl rfl rfl, trivial⟩
  by_cases p2 : m.kind = 2
  · cases hk : m.key.ok with
    | false =>
      rw [Msg.nok hk]
      rw [hk] at c1
      refine wC ?_
      exact fin ⟨res_of rfl rfl rfl, trivial⟩
    | true =>
      rw [hk] at c1
      by_cases z : m.val = Vl.zero
      · rw [Msg.okDel p2 hk z]
        by_cases ha : D64 m.add = 0
        · rw [decide_eq_true ha]
          refine wC ?_
          exact fin ⟨res_yes rfl z, trivial⟩
        · rw [decide_eq_false ha]
          refine wC ?_
          exact fin ⟨res_of rfl rfl rfl, trivial⟩
      · rw [Msg.noz p z]
        by_cases ha : D64 m.add = 0
        · refine wC ?_
          exact fin ⟨res_no rfl z, trivial⟩
        · refine wC ?_
          exact fin ⟨res_of rfl rfl rfl, trivial⟩
  by_cases p3 : m.kind = 3
  · cases hk : m.key.ok with
    | false =>
      rw [Msg.nok hk]
      rw [hk] at c1
      refine wC ?_
      exact fin ⟨res_of rfl rfl rfl, trivial⟩
    | true =>
      rw [hk] at c1
      by_cases z : m.val = Vl.zero
      · rw [Msg.okAdd p3 hk z]
        refine wC ?_
        exact fin ⟨res_yes rfl z, trivial⟩
      · rw [Msg.noz p z]
        refine wC ?_
        exact fin ⟨res_no rfl z, trivial⟩
  · have hno : m.ok = false := by
      by_cases h1 : m.kind < 1
      · exact Msg.no1 h1
      · exact Msg.no3 (by omega)
    rw [hno]
    refine wC ?_
    exact fin ⟨res_of rfl rfl rfl, trivial⟩
set_option maxRecDepth 100000 in
set_option maxHeartbeats 4000000 in
theorem a_msgbytes (m : Msg) : AFn Try.prog 59 [m.av] (intA m.size) := by
  refine AFn_intro Try.func59 rfl Try.ntmps59 rfl (by simp) [_] rfl fun E hE => ?_
  have c1 := acall Try.func69 (a_msgcheck m) (by decide +kernel) (by decide +kernel)
  unfold Msg.size
  cases hk : m.ok with
  | false =>
    rw [if_neg (by simp)]
    rw [hk] at c1
    have k' : (!false) = true := rfl
    refine wC ?_
    exact fin ⟨res_of rfl rfl rfl, trivial⟩
  | true =>
    rw [if_pos rfl]
    rw [hk] at c1
    have k' : (!true) = false := rfl
    obtain ⟨q1, q2, q3, q4, _⟩ := Msg.spec hk
    have n1 := Key.n_le q3
    have n2 := Vl.n_le q4
    by_cases p : m.kind = 1
    · rw [if_pos p, show 11 + m.key.n + m.val.n = 10 + m.key.n + (1 + m.val.n) from by omega]
      refine wC ?_
      exact fin ⟨res_of rfl rfl rfl, trivial⟩
    · rw [if_neg p]
      by_cases p3 : m.kind = 3
      · rw [if_pos p3, show 18 + m.key.n = 10 + m.key.n + 8 from by omega]
        refine wC ?_
        exact fin ⟨res_of rfl rfl rfl, trivial⟩
      · rw [if_neg p3]
        refine wC ?_
        exact fin ⟨res_of rfl rfl rfl, trivial⟩
end Go.Proofs.Ytkpjkfjlpiidbaa

namespace Go.Proofs.Ytkpjkfjlpiidbaa
open Go Go.RowKit
set_option linter.unusedVariables false
set_option linter.unusedSimpArgs false
set_option maxRecDepth 100000

attribute [local irreducible] OpOK AWops AW CondB Go2 AFn thenA inBlockA noGotoA orderOk wantedA
set_option maxRecDepth 100000 in
set_option maxHeartbeats 8000000 in
theorem a_bufbytes (l : List Msg) (hl : l.length ≤ 100000000) : AFn Try.prog 37 [msgsA l] (intA (bSum l)) := by
  refine AFn_intro Try.func37 rfl Try.ntmps37 rfl (by simp) [_] rfl fun E hE => ?_
  refine wB ?_
  refine AW_loopI (fun j : Nat => ⟨[(6, msgsA l), (7, intA l.length), (8, intA j), (3, intA (bSum (l.take j)))], []⟩) (fun j => j ≤ l.length) (fun j => l.length - j) 0 (Nat.zero_le _) (by (refine Go2.sub ⟨?_, ?_, ?_⟩ <;> repeat' (first | exact True.intro | rfl | apply And.intro))) (fun j hj => ?_)
  have hb := bSum_le (l.take j)
  rw [List.length_take] at hb
  by_cases c : j < l.length
  · have hs := bSum_snoc l j c
    have he := l[j].size_le
    have d1 := acall Try.func59 (a_msgbytes l[j]) (by decide +kernel) (by decide +kernel)
    refine wB ?_
    refine ⟨j + 1, c, by omega, ?_⟩
    rw [hs]
    (refine Go2.sub ⟨?_, ?_, ?_⟩ <;> repeat' (first | exact True.intro | rfl | apply And.intro))
  · obtain rfl : j = l.length := by omega
    rw [List.take_length]
    refine wB ?_
    exact fin ⟨res_of rfl rfl rfl, trivial⟩
set_option maxRecDepth 100000 in
set_option maxHeartbeats 8000000 in
theorem a_ref06same (l : List Msg) (hl : l.length ≤ 100000000) : AFn Try.prog 47 [msgsA l, msgsA l] (boolA true) := by
  refine AFn_intro Try.func47 rfl Try.ntmps47 rfl (by simp) [_] rfl fun E hE => ?_
  refine wL ?_
  refine AW_loopI (fun j : Nat => ⟨[(0, msgsA l), (1, msgsA l), (5, intA j)], []⟩) (fun j => j ≤ l.length) (fun j => l.length - j) 0 (Nat.zero_le _) (by (refine Go2.sub ⟨?_, ?_, ?_⟩ <;> repeat' (first | exact True.intro | rfl | apply And.intro))) (fun j hj => ?_)
  by_cases c : j < l.length
  · have hs : ¬ l[j] ≠ l[j] := fun h => h rfl
    refine wL ?_
    refine ⟨j + 1, c, by omega, ?_⟩
    (refine Go2.sub ⟨?_, ?_, ?_⟩ <;> repeat' (first | exact True.intro | rfl | apply And.intro))
  · refine wL ?_
    exact fin ⟨res_of rfl rfl rfl, trivial⟩
end Go.Proofs.Ytkpjkfjlpiidbaa

namespace Go.Proofs.Ytkpjkfjlpiidbaa
open Go Go.RowKit
set_option linter.unusedVariables false
set_option linter.unusedSimpArgs false
set_option maxRecDepth 100000

/-! ### parts -/
def pFrom (cuts : List Key) (l : List Msg) : Nat → Nat
  | 0 => 0
  | m + 1 => match cuts[m]? with
    | some k => bfAt k l
    | none => 0
def pTo (cuts : List Key) (l : List Msg) (n : Nat) : Nat := match cuts[n]? with
  | some k => bfAt k l
  | none => l.length
def bfPart (l : List Msg) (cuts : List Key) (n : Nat) : List Msg := (l.take (pTo cuts l n)).drop (pFrom cuts l n)
def keepLo (cuts : List Key) (m : Msg) : Nat → Bool
  | 0 => true
  | i + 1 => match cuts[i]? with
    | some k => decide (k.rank ≤ m.key.rank)
    | none => true
def keepHi (cuts : List Key) (m : Msg) (n : Nat) : Bool := match cuts[n]? with
  | some k => decide (m.key.rank < k.rank)
  | none => true
theorem take_filter_ge {k : Key} : ∀ {l : List Msg} (t : Nat), BSrt l → (l.take t).filter (fun e => decide (k.rank ≤ e.key.rank)) = (l.take t).drop (bfAt k l)
  | [], t, _ => by simp
  | e :: l, 0, _ => by simp
  | e :: l, t + 1, h => by
    rw [List.take_succ_cons, bfAt_cons]
    by_cases c : e.key.rank < k.rank
    · rw [if_pos c, List.filter_cons_of_neg (by simp; omega), List.drop_succ_cons, take_filter_ge t h.tail]
    · have hz : bfAt k l = 0 := bfAt_zero fun b hb => by have := h.head b hb; omega
      rw [if_neg c, hz, List.drop_zero, List.filter_eq_self]
      intro b hb
      rcases List.mem_cons.1 hb with rfl | hb
      · simp; omega
      · have := h.head b (List.mem_of_mem_take hb)
        simp; omega
theorem part_filter {l : List Msg} (h : BSrt l) (cuts : List Key) (n : Nat) : l.filter (fun m => keepLo cuts m n && keepHi cuts m n) = bfPart l cuts n := by
  have e1 : l.filter (fun m => keepHi cuts m n) = l.take (pTo cuts l n) := by
    unfold keepHi pTo
    cases hc : cuts[n]? with
    | none => simp
    | some k => exact bflt_lo h
  have e2 : l.filter (fun m => keepLo cuts m n && keepHi cuts m n) = (l.filter (fun m => keepHi cuts m n)).filter (fun m => keepLo cuts m n) := by rw [List.filter_filter]
  rw [e2, e1]
  unfold bfPart
  cases n with
  | zero => simp [keepLo, pFrom]
  | succ m =>
    cases hc : cuts[m]? with
    | none => simp [keepLo, pFrom, hc]
    | some k =>
      simp only [keepLo, pFrom, hc]
      exact take_filter_ge _ h
theorem filter_snoc {l : List Msg} (f : Msg → Bool) (j : Nat) (h : j < l.length) : (l.take (j + 1)).filter f = (l.take j).filter f ++ (if f l[j] then [l[j]] else []) := by
  rw [← List.take_append_getElem h, List.filter_append]
  simp only [List.filter_cons, List.filter_nil]
/-! ### batches -/
def batchF (l : List Msg) : Nat → Nat → Nat
  | 0, a => a
  | f + 1, a => if a < l.length ∧ bSum (l.take (a + 1)) ≤ 96 then batchF l f (a + 1) else a
def batchN (l : List Msg) : Nat := batchF l l.length 0
theorem batchF_on {l : List Msg} {f a : Nat} (h : a < l.length ∧ bSum (l.take (a + 1)) ≤ 96) : batchF l (f + 1) a = batchF l f (a + 1) := by rw [batchF, if_pos h]
theorem batchF_off {l : List Msg} {f a : Nat} (h : ¬ (a < l.length ∧ bSum (l.take (a + 1)) ≤ 96)) : batchF l (f + 1) a = a := by rw [batchF, if_neg h]
theorem batchF_le (l : List Msg) : ∀ f a, a ≤ l.length → batchF l f a ≤ l.length ∧ a ≤ batchF l f a ∧ (l.length ≤ f + a → batchF l f a < l.length → 96 < bSum (l.take (batchF l f a + 1))) ∧ (a = batchF l f a ∨ bSum (l.take (batchF l f a)) ≤ 96)
  | 0, a, h => ⟨h, Nat.le_refl _, fun h1 h2 => by unfold batchF at h2; omega, .inl rfl⟩
  | f + 1, a, h => by
    by_cases c : a < l.length ∧ bSum (l.take (a + 1)) ≤ 96
    · rw [batchF_on c]
      obtain ⟨h1, h2, h3, h4⟩ := batchF_le l f (a + 1) c.1
      refine ⟨h1, by omega, fun e => h3 (by omega), .inr ?_⟩
      rcases h4 with h4 | h4
      · rw [← h4]; exact c.2
      · exact h4
    · rw [batchF_off c]
      exact ⟨h, Nat.le_refl _, fun _ h2 => Int.not_le.1 fun h3 => c ⟨h2, h3⟩, .inl rfl⟩
/-! ### what is left -/
def goneP (gone : List Msg) (m : Msg) : Bool := !(bfGet m.key gone).isSome
def bfLess (l gone : List Msg) : List Msg := l.filter (goneP gone)
theorem hit_some {l : List Msg} (h : BSrt l) (k : Key) : bfHit k l = (bfGet k l).isSome := by
  by_cases e : bfAt k l < l.length
  · rw [bfHit_at e]
    by_cases q : l[bfAt k l].key = k
    · rw [bget_hit h e q, decide_eq_true q]; rfl
    · rw [bget_no h (fun _ => q), decide_eq_false q]; rfl
  · rw [bfHit_end e, bget_no h (fun hi => absurd hi e)]; rfl
theorem opM_some (o : Option Msg) : (opM o).2 = o.isSome := by cases o <;> rfl
section
variable {E : Env} {nt : Nat} {ops : Array Oper} {T : Nat → Option AV} {H : Hp} {d : Option Nat} {ty : TypeId} {pos : String} {af : Array Edge} {gd : Option (Nat × Bool)}
theorem o_cut3 {α : Type} {f : α → AV} {t e : TypeId} {es bytes : Nat} {ea : Bool} {x lo hi mx : Operand} {tok : Option Nat} {xs : List α} {k k' k'' : IntKind} {a b : Nat} (hd : dOk nt d = true) (hs : tabT.ti t = some (.sl e es bytes ea)) (hx : evalO T x = some (.sl tok es (xs.map f))) (hlo : evalO T lo = some (.v (.int k (a : Nat)))) (hhi : evalO T hi = some (.v (.int k' (b : Nat)))) (hmx : evalO T mx = some (.v (.int k'' (b : Nat)))) (h1 : a ≤ b) (h2 : b ≤ xs.length) :
    OpOK Try.prog E nt ops ⟨d, .slice t x (some lo) (some hi) (some mx), ty, pos, af, gd⟩ T H [] ⟨.sl none es (((xs.take b).drop a).map f), []⟩ := by
  have := ok_cut tabT (E := E) (ops := ops) (H := H) (ty := ty) (pos := pos) (af := af) (gd := gd) (m := b) hd hs hx (bnd_nat hlo) (bnd_nat hhi) (.inr ⟨bnd_nat hmx, Nat.le_refl _, by simpa using h2, rfl, rfl⟩) h1 (by simpa using h2)
  rwa [← List.map_take, ← List.map_drop] at this
theorem o_cut3h {α : Type} {f : α → AV} {t e : TypeId} {es bytes : Nat} {ea : Bool} {x hi mx : Operand} {tok : Option Nat} {xs : List α} {k' k'' : IntKind} {b : Nat} (hd : dOk nt d = true) (hs : tabT.ti t = some (.sl e es bytes ea)) (hx : evalO T x = some (.sl tok es (xs.map f))) (hhi : evalO T hi = some (.v (.int k' (b : Nat)))) (hmx : evalO T mx = some (.v (.int k'' (b : Nat)))) (h2 : b ≤ xs.length) :
    OpOK Try.prog E nt ops ⟨d, .slice t x none (some hi) (some mx), ty, pos, af, gd⟩ T H [] ⟨.sl none es ((xs.take b).map f), []⟩ := by
  have := ok_cut tabT (E := E) (ops := ops) (H := H) (ty := ty) (pos := pos) (af := af) (gd := gd) (m := b) hd hs hx (bnd_none (d := 0)) (bnd_nat hhi) (.inr ⟨bnd_nat hmx, Nat.le_refl _, by simpa using h2, rfl, rfl⟩) (Nat.zero_le _) (by simpa using h2)
  rwa [← List.map_take, List.drop_zero] at this
end
attribute [local irreducible] OpOK AWops AW CondB Go2 AFn thenA inBlockA noGotoA orderOk wantedA
end Go.Proofs.Ytkpjkfjlpiidbaa

namespace Go.Proofs.Ytkpjkfjlpiidbaa
open Go Go.RowKit
set_option linter.unusedVariables false
set_option linter.unusedSimpArgs false
set_option maxRecDepth 100000

theorem kids_no (ks : List Int) (cs : List Key) (cmp : Key → Key → Int) (j : Nat) (h : j < ks.length) (hJ : kidsFrom ks 0 ks = kidsFrom ks j (ks.drop j)) (e : ks[j] < 1 ∨ 256 ≤ ks[j] ∨ idxOf ks ks[j] ≠ (j : Int)) : fanOkBy cmp ks cs = false := by
  unfold fanOkBy
  rw [hJ, kidsFrom_step ks ks j h]
  rcases e with e | e | e
  · rw [show decide (1 ≤ ks[j]) = false from decide_eq_false (by omega)]; simp
  · rw [show decide (ks[j] < 256) = false from decide_eq_false (by omega)]; simp
  · rw [show decide (idxOf ks ks[j] = (j : Int)) = false from decide_eq_false e]; simp
theorem kids_on (ks : List Int) (j : Nat) (h : j < ks.length) (hJ : kidsFrom ks 0 ks = kidsFrom ks j (ks.drop j)) (e1 : ¬ ks[j] < 1) (e2 : ¬ 256 ≤ ks[j]) (e3 : idxOf ks ks[j] = (j : Int)) : kidsFrom ks 0 ks = kidsFrom ks (j + 1) (ks.drop (j + 1)) := by
  rw [hJ, kidsFrom_step ks ks j h, show decide (1 ≤ ks[j]) = true from decide_eq_true (by omega), show decide (ks[j] < 256) = true from decide_eq_true (by omega), show decide (idxOf ks ks[j] = (j : Int)) = true from decide_eq_true e3]
  simp
theorem fan_no (ks : List Int) (cs : List Key) (cmp : Key → Key → Int) (e : ks.length < 2 ∨ 4 < ks.length ∨ cs.length + 1 ≠ ks.length) : fanOkBy cmp ks cs = false := by
  unfold fanOkBy
  rcases e with e | e | e
  · rw [show decide (2 ≤ ks.length) = false from decide_eq_false (by omega)]; simp
  · rw [show decide (ks.length ≤ 4) = false from decide_eq_false (by omega)]; simp
  · rw [show decide (cs.length + 1 = ks.length) = false from decide_eq_false e]; simp
theorem fan_on (ks : List Int) (cs : List Key) (cmp : Key → Key → Int) (h2 : 2 ≤ ks.length) (h4 : ks.length ≤ 4) (hc : cs.length + 1 = ks.length) (hk : kidsFrom ks 0 ks = true) : fanOkBy cmp ks cs = risesBy cmp none cs := by
  unfold fanOkBy
  rw [decide_eq_true h2, decide_eq_true h4, decide_eq_true hc, hk]; simp
theorem rise_no0 (cmp : Key → Key → Int) (cs : List Key) (j : Nat) (h : j < cs.length) (hJ : risesBy cmp none cs = risesBy cmp (ahead cs j) (cs.drop j)) (e : cs[j].ok = false) : risesBy cmp none cs = false := by
  cases j with
  | zero => rw [hJ, risesBy_step0 cmp cs h, e]; rfl
  | succ m => rw [hJ, risesBy_step cmp cs m h, e]; rfl
theorem rise_no1 (cmp : Key → Key → Int) (cs : List Key) (m : Nat) (h : m + 1 < cs.length) (hJ : risesBy cmp none cs = risesBy cmp (ahead cs (m + 1)) (cs.drop (m + 1))) (e : 0 ≤ cmp cs[m] cs[m + 1]) : risesBy cmp none cs = false := by
  rw [hJ, risesBy_step cmp cs m h, show decide (cmp cs[m] cs[m + 1] < 0) = false from decide_eq_false (by omega)]; simp
theorem rise_on0 (cmp : Key → Key → Int) (cs : List Key) (h : 0 < cs.length) (hJ : risesBy cmp none cs = risesBy cmp (ahead cs 0) (cs.drop 0)) (e : cs[0].ok = true) : risesBy cmp none cs = risesBy cmp (ahead cs 1) (cs.drop 1) := by
  rw [hJ, risesBy_step0 cmp cs h, e]; simp
theorem rise_on1 (cmp : Key → Key → Int) (cs : List Key) (m : Nat) (h : m + 1 < cs.length) (hJ : risesBy cmp none cs = risesBy cmp (ahead cs (m + 1)) (cs.drop (m + 1))) (e : cs[m + 1].ok = true) (c : ¬ 0 ≤ cmp cs[m] cs[m + 1]) : risesBy cmp none cs = risesBy cmp (ahead cs (m + 2)) (cs.drop (m + 2)) := by
  rw [hJ, risesBy_step cmp cs m h, e, show decide (cmp cs[m] cs[m + 1] < 0) = true from decide_eq_true (by omega)]; simp
attribute [local irreducible] OpOK AWops AW CondB Go2 AFn thenA inBlockA noGotoA orderOk wantedA
set_option maxRecDepth 100000 in
theorem a_index (l : List Int) (x : Int) (hl : l.length ≤ 1000000000000000000) : AFn Try.prog 103 [intsA l, intA x] (intA (idxOf l x)) := by
  refine AFn_intro Try.func103 rfl Try.ntmps103 rfl (by simp) [_] rfl fun E hE => ?_
  refine wO ?_
  refine AW_loopI (fun j : Nat => ⟨[(0, intsA l), (1, intA x), (7, intA l.length), (8, intA j)], []⟩) (fun j => j ≤ l.length ∧ idxOf l x = idxFrom x j (l.drop j)) (fun j => l.length - j) 0 ⟨Nat.zero_le _, rfl⟩ (by (refine Go2.sub ⟨?_, ?_, ?_⟩ <;> repeat' (first | exact True.intro | rfl | apply And.intro))) (fun j hj => ?_)
  obtain ⟨hj, hJ⟩ := hj
  by_cases hlt : j < l.length
  · by_cases he : x = l[j]
    · rw [hJ, idxFrom_hit l x j hlt he.symm]
      refine wO ?_
      exact fin ⟨res_of rfl rfl rfl, trivial⟩
    · refine wO ?_
      refine ⟨j + 1, ⟨hlt, by rw [hJ, idxFrom_miss l x j hlt (fun h => he h.symm)]⟩, by omega, ?_⟩
      (refine Go2.sub ⟨?_, ?_, ?_⟩ <;> repeat' (first | exact True.intro | rfl | apply And.intro))
  · rw [hJ, idxFrom_end l x j (by omega)]
    refine wO ?_
    exact fin ⟨res_of rfl rfl rfl, trivial⟩
set_option maxRecDepth 100000 in
theorem a_place (l : List Int) (x : Int) (hl : l.length ≤ 1000000000000000000) : AFn Try.prog 102 [intsA l, intA x] (intA (idxOf l x)) := by
  refine AFn_intro Try.func102 rfl Try.ntmps102 rfl (by simp) [_] rfl fun E hE => ?_
  have c := acall Try.func103 (a_index l x hl) (by decide +kernel) (by decide +kernel)
  refine wO ?_
  exact fin ⟨res_of rfl rfl rfl, trivial⟩
set_option maxRecDepth 100000 in
theorem a_refplace (l : List Int) (x : Int) (hl : l.length ≤ 1000000000000000000) : AFn Try.prog 63 [intsA l, intA x] (intA (idxOf l x)) := by
  refine AFn_intro Try.func63 rfl Try.ntmps63 rfl (by simp) [_] rfl fun E hE => ?_
  refine wO ?_
  refine AW_loopI (fun j : Nat => ⟨[(0, intsA l), (1, intA x), (5, intA j)], []⟩) (fun j => j ≤ l.length ∧ idxOf l x = idxFrom x j (l.drop j)) (fun j => l.length - j) 0 ⟨Nat.zero_le _, rfl⟩ (by (refine Go2.sub ⟨?_, ?_, ?_⟩ <;> repeat' (first | exact True.intro | rfl | apply And.intro))) (fun j hj => ?_)
  obtain ⟨hj, hJ⟩ := hj
  by_cases hlt : j < l.length
  · by_cases he : l[j] = x
    · rw [hJ, idxFrom_hit l x j hlt he]
      refine wO ?_
      exact fin ⟨res_of rfl rfl rfl, trivial⟩
    · refine wO ?_
      refine ⟨j + 1, ⟨hlt, by rw [hJ, idxFrom_miss l x j hlt he]⟩, by omega, ?_⟩
      (refine Go2.sub ⟨?_, ?_, ?_⟩ <;> repeat' (first | exact True.intro | rfl | apply And.intro))
  · rw [hJ, idxFrom_end l x j (by omega)]
    refine wO ?_
    exact fin ⟨res_of rfl rfl rfl, trivial⟩
set_option maxRecDepth 100000 in
set_option maxHeartbeats 4000000 in
theorem a_fancheck (ks : List Int) (cs : List Key) : AFn Try.prog 100 [intsA ks, keysA cs] (boolA (fanOkBy keyCmp ks cs)) := by
  refine AFn_intro Try.func100 rfl Try.ntmps100 rfl (by simp) [_] rfl fun E hE => ?_
  by_cases c1 : ks.length < 2
  · rw [fan_no ks cs keyCmp (by omega)]
    refine wO ?_
    exact fin ⟨res_of rfl rfl rfl, trivial⟩
  by_cases c2 : 4 < ks.length
  · rw [fan_no ks cs keyCmp (by omega)]
    refine wO ?_
    exact fin ⟨res_of rfl rfl rfl, trivial⟩
  by_cases c3 : cs.length + 1 = ks.length
  · refine wO ?_
    refine AW_loopI (fun j : Nat => ⟨[(0, intsA ks), (1, keysA cs), (25, intsA ks), (26, intA ks.length), (27, intA j)], []⟩) (fun j => j ≤ ks.length ∧ kidsFrom ks 0 ks = kidsFrom ks j (ks.drop j)) (fun j => ks.length - j) 0 ⟨Nat.zero_le _, rfl⟩ (by (refine Go2.sub ⟨?_, ?_, ?_⟩ <;> repeat' (first | exact True.intro | rfl | apply And.intro))) (fun j hj => ?_)
    obtain ⟨hj, hJ⟩ := hj
    by_cases hlt : j < ks.length
    · have cp := acall Try.func102 (a_place ks ks[j] (by omega)) (by decide +kernel) (by decide +kernel)
      by_cases e1 : ks[j] < 1
      · rw [kids_no ks cs keyCmp j hlt hJ (by omega)]
        refine wO ?_
        exact fin ⟨res_of rfl rfl rfl, trivial⟩
      by_cases e2 : 256 ≤ ks[j]
      · rw [kids_no ks cs keyCmp j hlt hJ (by omega)]
        refine wO ?_
        exact fin ⟨res_of rfl rfl rfl, trivial⟩
      by_cases e3 : idxOf ks ks[j] = (j : Int)
      · refine wO ?_
        refine ⟨j + 1, ⟨hlt, kids_on ks j hlt hJ e1 e2 e3⟩, by omega, ?_⟩
        (refine Go2.sub ⟨?_, ?_, ?_⟩ <;> repeat' (first | exact True.intro | rfl | apply And.intro))
      · rw [kids_no ks cs keyCmp j hlt hJ (by omega)]
        refine wO ?_
        exact fin ⟨res_of rfl rfl rfl, trivial⟩
    · rw [kidsFrom_end ks ks j (by omega)] at hJ
      rw [fan_on ks cs keyCmp (by omega) (by omega) c3 hJ]
      refine wO ?_
      refine AW_loopI (fun j : Nat => ⟨[(1, keysA cs), (46, keysA cs), (47, intA cs.length), (48, intA j)], []⟩) (fun j => j ≤ cs.length ∧ risesBy keyCmp none cs = risesBy keyCmp (ahead cs j) (cs.drop j)) (fun j => cs.length - j) 0 ⟨Nat.zero_le _, rfl⟩ (by (refine Go2.sub ⟨?_, ?_, ?_⟩ <;> repeat' (first | exact True.intro | rfl | apply And.intro))) (fun j hj => ?_)
      obtain ⟨hj, hJ⟩ := hj
      by_cases hlt : j < cs.length
      · have ck := acall Try.func75 (a_keycheck cs[j]) (by decide +kernel) (by decide +kernel)
        cases hko : cs[j].ok with
        | false =>
          have hk' : (!cs[j].ok) = true := by rw [hko]; rfl
          rw [rise_no0 keyCmp cs j hlt hJ hko]
          refine wO ?_
          exact fin ⟨res_of rfl rfl rfl, trivial⟩
        | true =>
          have hk' : (!cs[j].ok) = false := by rw [hko]; rfl
          cases j with
          | zero =>
            refine wO ?_
            refine ⟨1, ⟨hlt, rise_on0 keyCmp cs hlt hJ hko⟩, by omega, ?_⟩
            (refine Go2.sub ⟨?_, ?_, ?_⟩ <;> repeat' (first | exact True.intro | rfl | apply And.intro))
          | succ m =>
            have hm : m < cs.length := by omega
            have cc := acall Try.func72 (a_keycmp cs[m] cs[m + 1]) (by decide +kernel) (by decide +kernel)
            by_cases c : 0 ≤ keyCmp cs[m] cs[m + 1]
            · rw [rise_no1 keyCmp cs m hlt hJ c]
              refine wO ?_
              exact fin ⟨res_of rfl rfl rfl, trivial⟩
            · refine wO ?_
              refine ⟨m + 2, ⟨hlt, rise_on1 keyCmp cs m hlt hJ hko c⟩, by omega, ?_⟩
              (refine Go2.sub ⟨?_, ?_, ?_⟩ <;> repeat' (first | exact True.intro | rfl | apply And.intro))
      · rw [risesBy_end keyCmp cs _ j (by omega)] at hJ
        rw [hJ]
        refine wO ?_
        exact fin ⟨res_of rfl rfl rfl, trivial⟩
  · rw [fan_no ks cs keyCmp (by omega)]
    refine wO ?_
    exact fin ⟨res_of rfl rfl rfl, trivial⟩
set_option maxRecDepth 100000 in
set_option maxHeartbeats 4000000 in
theorem a_reffancheck (ks : List Int) (cs : List Key) : AFn Try.prog 49 [intsA ks, keysA cs] (boolA (fanOkBy refCmp ks cs)) := by
  refine AFn_intro Try.func49 rfl Try.ntmps49 rfl (by simp) [_] rfl fun E hE => ?_
  by_cases c1 : ks.length < 2
  · rw [fan_no ks cs refCmp (by omega)]
    refine wO ?_
    exact fin ⟨res_of rfl rfl rfl, trivial⟩
  by_cases c2 : 4 < ks.length
  · rw [fan_no ks cs refCmp (by omega)]
    refine wO ?_
    exact fin ⟨res_of rfl rfl rfl, trivial⟩
  by_cases c3 : cs.length + 1 = ks.length
  · refine wO ?_
    refine AW_loopI (fun j : Nat => ⟨[(0, intsA ks), (1, keysA cs), (5, intA j)], []⟩) (fun j => j ≤ ks.length ∧ kidsFrom ks 0 ks = kidsFrom ks j (ks.drop j)) (fun j => ks.length - j) 0 ⟨Nat.zero_le _, rfl⟩ (by (refine Go2.sub ⟨?_, ?_, ?_⟩ <;> repeat' (first | exact True.intro | rfl | apply And.intro))) (fun j hj => ?_)
    obtain ⟨hj, hJ⟩ := hj
    by_cases hlt : j < ks.length
    · have cp := acall Try.func63 (a_refplace ks ks[j] (by omega)) (by decide +kernel) (by decide +kernel)
      by_cases e1 : ks[j] < 1
      · rw [kids_no ks cs refCmp j hlt hJ (by omega)]
        refine wO ?_
        exact fin ⟨res_of rfl rfl rfl, trivial⟩
      by_cases e2 : 256 ≤ ks[j]
      · rw [kids_no ks cs refCmp j hlt hJ (by omega)]
        refine wO ?_
        exact fin ⟨res_of rfl rfl rfl, trivial⟩
      by_cases e3 : idxOf ks ks[j] = (j : Int)
      · refine wO ?_
        refine ⟨j + 1, ⟨hlt, kids_on ks j hlt hJ e1 e2 e3⟩, by omega, ?_⟩
        (refine Go2.sub ⟨?_, ?_, ?_⟩ <;> repeat' (first | exact True.intro | rfl | apply And.intro))
      · rw [kids_no ks cs refCmp j hlt hJ (by omega)]
        refine wO ?_
        exact fin ⟨res_of rfl rfl rfl, trivial⟩
    · rw [kidsFrom_end ks ks j (by omega)] at hJ
      rw [fan_on ks cs refCmp (by omega) (by omega) c3 hJ]
      refine wO ?_
      refine AW_loopI (fun j : Nat => ⟨[(1, keysA cs), (6, intA j)], []⟩) (fun j => j ≤ cs.length ∧ risesBy refCmp none cs = risesBy refCmp (ahead cs j) (cs.drop j)) (fun j => cs.length - j) 0 ⟨Nat.zero_le _, rfl⟩ (by (refine Go2.sub ⟨?_, ?_, ?_⟩ <;> repeat' (first | exact True.intro | rfl | apply And.intro))) (fun j hj => ?_)
      obtain ⟨hj, hJ⟩ := hj
      by_cases hlt : j < cs.length
      · have ck := acall Try.func61 (a_refkeycheck cs[j]) (by decide +kernel) (by decide +kernel)
        cases hko : cs[j].ok with
        | false =>
          have hk' : (!cs[j].ok) = true := by rw [hko]; rfl
          rw [rise_no0 refCmp cs j hlt hJ hko]
          refine wO ?_
          exact fin ⟨res_of rfl rfl rfl, trivial⟩
        | true =>
          have hk' : (!cs[j].ok) = false := by rw [hko]; rfl
          cases j with
          | zero =>
            refine wO ?_
            refine ⟨1, ⟨hlt, rise_on0 refCmp cs hlt hJ hko⟩, by omega, ?_⟩
            (refine Go2.sub ⟨?_, ?_, ?_⟩ <;> repeat' (first | exact True.intro | rfl | apply And.intro))
          | succ m =>
            have hm : m < cs.length := by omega
            have cc := acall Try.func55 (a_refcmp cs[m] cs[m + 1]) (by decide +kernel) (by decide +kernel)
            by_cases c : 0 ≤ refCmp cs[m] cs[m + 1]
            · rw [rise_no1 refCmp cs m hlt hJ c]
              refine wO ?_
              exact fin ⟨res_of rfl rfl rfl, trivial⟩
            · refine wO ?_
              refine ⟨m + 2, ⟨hlt, rise_on1 refCmp cs m hlt hJ hko c⟩, by omega, ?_⟩
              (refine Go2.sub ⟨?_, ?_, ?_⟩ <;> repeat' (first | exact True.intro | rfl | apply And.intro))
      · rw [risesBy_end refCmp cs _ j (by omega)] at hJ
        rw [hJ]
        refine wO ?_
        exact fin ⟨res_of rfl rfl rfl, trivial⟩
  · rw [fan_no ks cs refCmp (by omega)]
    refine wO ?_
    exact fin ⟨res_of rfl rfl rfl, trivial⟩
end Go.Proofs.Ytkpjkfjlpiidbaa

namespace Go.Proofs.Ytkpjkfjlpiidbaa
open Go Go.RowKit
set_option linter.unusedVariables false
set_option linter.unusedSimpArgs false
set_option maxRecDepth 100000

theorem flat_take {α : Type} (l : List (List α)) (j : Nat) (h : j < l.length) : (l.take (j + 1)).flatten = (l.take j).flatten ++ l[j] := by
  rw [List.take_succ_eq_append_getElem h, List.flatten_append]; simp
theorem flat_le {α : Type} (l : List (List α)) (j : Nat) : (l.take j).flatten.length ≤ l.flatten.length := by
  conv => rhs; rw [← List.take_append_drop j l, List.flatten_append, List.length_append]
  omega
def insKids (ks : List Int) (i : Nat) (id : Int) : List Int := ks.take (i + 1) ++ ([id] ++ ks.drop (i + 1))
def insCuts (cs : List Key) (at_ : Nat) (x : Key) : List Key := cs.take at_ ++ ([x] ++ cs.drop at_)
def fanIns (ks : List Int) (cs : List Key) (i : Int) (x : Key) (id : Int) : List Int × List Key :=
  if 0 ≤ i ∧ i < ks.length then (insKids ks i.toNat id, insCuts cs (min i.toNat cs.length) x) else (ks, cs)
attribute [local irreducible] OpOK AWops AW CondB Go2 AFn thenA inBlockA noGotoA orderOk wantedA
def fanHal (ks : List Int) (cs : List Key) : List Int × List Key × Key × List Int × List Key × Bool :=
  if ks.length = 4 ∧ cs.length = 3 then (ks.take 2, cs.take 1, cs.getD 1 Key.zero, ks.drop 2, cs.drop 2, true) else ([], [], Key.zero, [], [], false)
def fanHalA (h : List Int × List Key × Key × List Int × List Key × Bool) : AV := .tup [intsA h.1, keysA h.2.1, h.2.2.1.av, intsA h.2.2.2.1, keysA h.2.2.2.2.1, boolA h.2.2.2.2.2]
end Go.Proofs.Ytkpjkfjlpiidbaa

namespace Go.Proofs.Ytkpjkfjlpiidbaa
open Go Go.RowKit
set_option linter.unusedVariables false
set_option linter.unusedSimpArgs false
set_option maxRecDepth 100000

/-- the first j kids, with one more behind place i -/
def insK (ks : List Int) (i id : Int) (j : Nat) : List Int := if 0 ≤ i ∧ i < j then ks.take (i.toNat + 1) ++ ([id] ++ (ks.take j).drop (i.toNat + 1)) else ks.take j
theorem insK_hit (ks : List Int) (i id : Int) (j : Nat) (h : j < ks.length) (e : (j : Int) = i) : insK ks i id (j + 1) = insK ks i id j ++ [ks[j]] ++ [id] := by
  subst e
  unfold insK
  rw [if_pos (by omega), if_neg (by omega), Int.toNat_natCast, List.drop_eq_nil_of_le (by simp; omega), List.take_succ_eq_append_getElem h]
  simp
theorem insK_miss (ks : List Int) (i id : Int) (j : Nat) (h : j < ks.length) (e : ¬ (j : Int) = i) : insK ks i id (j + 1) = insK ks i id j ++ [ks[j]] := by
  unfold insK
  by_cases c : 0 ≤ i ∧ i < j
  · rw [if_pos (by omega), if_pos c, List.take_succ_eq_append_getElem h, List.drop_append_of_le_length (by simp; omega)]
    simp
  · rw [if_neg (by omega), if_neg c, List.take_succ_eq_append_getElem h]
theorem insK_zero (ks : List Int) (i id : Int) : insK ks i id 0 = [] := by
  unfold insK; rw [if_neg (by omega)]; rfl
theorem insK_end (ks : List Int) (cs : List Key) (i id : Int) (x : Key) : insK ks i id ks.length = (fanIns ks cs i x id).1 := by
  unfold insK fanIns
  by_cases c : 0 ≤ i ∧ i < ks.length
  · rw [if_pos c, if_pos c]; simp [insKids]
  · rw [if_neg c, if_neg c]; simp
theorem insK_le (ks : List Int) (i id : Int) (j : Nat) : (insK ks i id j).length ≤ ks.length + 1 + ks.length := by
  unfold insK; split <;> simp <;> omega
/-- the first j pivots, with one more ahead of place i -/
def insC (cs : List Key) (m : Nat) (i : Int) (x : Key) (j : Nat) : List Key := if 0 ≤ i ∧ i < m ∧ i < j then cs.take i.toNat ++ ([x] ++ (cs.take j).drop i.toNat) else cs.take j
theorem insC_hit (cs : List Key) (m : Nat) (i : Int) (x : Key) (j : Nat) (h : j < cs.length) (e : (j : Int) = i) (hm : i < m) : insC cs m i x (j + 1) = insC cs m i x j ++ [x] ++ [cs[j]] := by
  subst e
  unfold insC
  rw [if_pos (by omega), if_neg (by omega), Int.toNat_natCast, List.take_succ_eq_append_getElem h, List.drop_append_of_le_length (by simp; omega), List.drop_eq_nil_of_le (by simp; omega)]
  simp
theorem insC_miss (cs : List Key) (m : Nat) (i : Int) (x : Key) (j : Nat) (h : j < cs.length) (e : ¬ ((j : Int) = i ∧ i < m)) : insC cs m i x (j + 1) = insC cs m i x j ++ [cs[j]] := by
  unfold insC
  by_cases c : 0 ≤ i ∧ i < m ∧ i < j
  · rw [if_pos (by omega), if_pos c, List.take_succ_eq_append_getElem h, List.drop_append_of_le_length (by simp; omega)]
    simp
  · rw [if_neg (by omega), if_neg c, List.take_succ_eq_append_getElem h]
theorem insC_zero (cs : List Key) (m : Nat) (i : Int) (x : Key) : insC cs m i x 0 = [] := by
  unfold insC; rw [if_neg (by omega)]; rfl
theorem insC_last (ks : List Int) (cs : List Key) (i id : Int) (x : Key) (e : i = cs.length) (hm : i < ks.length) : insC cs ks.length i x cs.length ++ [x] = (fanIns ks cs i x id).2 := by
  subst e
  unfold insC fanIns
  rw [if_neg (by omega), if_pos (by omega)]
  simp [insCuts]
theorem insC_end (ks : List Int) (cs : List Key) (i id : Int) (x : Key) (hl : ks.length ≤ cs.length + 1) (e : ¬ (i = cs.length ∧ i < ks.length)) : insC cs ks.length i x cs.length = (fanIns ks cs i x id).2 := by
  unfold insC fanIns
  by_cases c : 0 ≤ i ∧ i < ks.length
  · rw [if_pos (by omega), if_pos c]
    have : min i.toNat cs.length = i.toNat := by omega
    simp [insCuts, this]
  · rw [if_neg (by omega), if_neg c]; simp
theorem insC_le (cs : List Key) (m : Nat) (i : Int) (x : Key) (j : Nat) : (insC cs m i x j).length ≤ cs.length + 1 + cs.length := by
  unfold insC; split <;> simp <;> omega
/-- the first places at which two rows are alike -/
theorem same_step {α : Type} [DecidableEq α] (a b : List α) (j : Nat) (h : j < a.length) (h' : j < b.length) (e : a[j] = b[j]) (k : a.take j = b.take j) : a.take (j + 1) = b.take (j + 1) := by
  rw [List.take_succ_eq_append_getElem h, List.take_succ_eq_append_getElem h', e, k]
theorem same_no {α : Type} [DecidableEq α] (a b : List α) (j : Nat) (h : j < a.length) (h' : j < b.length) (e : a[j] ≠ b[j]) : decide (a = b) = false := decide_eq_false fun k => e (by subst k; rfl)
attribute [local irreducible] OpOK AWops AW CondB Go2 AFn thenA inBlockA noGotoA orderOk wantedA
set_option maxRecDepth 100000 in
theorem a_sameInts (a b : List Int) (h1 : a.length ≤ 1000000000) : AFn Try.prog 45 [intsA a, intsA b] (boolA (decide (a = b))) := by
  refine AFn_intro Try.func45 rfl Try.ntmps45 rfl (by simp) [_] rfl fun E hE => ?_
  by_cases hl : a.length = b.length
  · refine wO ?_
    refine AW_loopI (fun j : Nat => ⟨[(0, intsA a), (1, intsA b), (5, intA j)], []⟩) (fun j => j ≤ a.length ∧ a.take j = b.take j) (fun j => a.length - j) 0 ⟨Nat.zero_le _, rfl⟩ (by (refine Go2.sub ⟨?_, ?_, ?_⟩ <;> repeat' (first | exact True.intro | rfl | apply And.intro))) (fun j hj => ?_)
    obtain ⟨hj, hJ⟩ := hj
    by_cases hlt : j < a.length
    · have hlt' : j < b.length := by omega
      by_cases h : a[j] = b[j]
      · have h' : ¬ a[j] ≠ b[j] := fun k => k h
        refine wO ?_
        refine ⟨j + 1, ⟨hlt, same_step a b j hlt hlt' h hJ⟩, by omega, ?_⟩
        (refine Go2.sub ⟨?_, ?_, ?_⟩ <;> repeat' (first | exact True.intro | rfl | apply And.intro))
      · have h' : a[j] ≠ b[j] := h
        rw [same_no a b j hlt hlt' h]
        refine wO ?_
        exact fin ⟨res_of rfl rfl rfl, trivial⟩
    · have : j = a.length := by omega
      subst this
      rw [List.take_length, hl, List.take_length] at hJ
      rw [decide_eq_true hJ]
      refine wO ?_
      exact fin ⟨res_of rfl rfl rfl, trivial⟩
  · rw [show decide (a = b) = false from decide_eq_false fun k => hl (by rw [k])]
    refine wO ?_
    exact fin ⟨res_of rfl rfl rfl, trivial⟩
set_option maxRecDepth 100000 in
theorem a_sameKeys (a b : List Key) (h1 : a.length ≤ 1000000000) : AFn Try.prog 46 [keysA a, keysA b] (boolA (decide (a = b))) := by
  refine AFn_intro Try.func46 rfl Try.ntmps46 rfl (by simp) [_] rfl fun E hE => ?_
  by_cases hl : a.length = b.length
  · refine wO ?_
    refine AW_loopI (fun j : Nat => ⟨[(0, keysA a), (1, keysA b), (5, intA j)], []⟩) (fun j => j ≤ a.length ∧ a.take j = b.take j) (fun j => a.length - j) 0 ⟨Nat.zero_le _, rfl⟩ (by (refine Go2.sub ⟨?_, ?_, ?_⟩ <;> repeat' (first | exact True.intro | rfl | apply And.intro))) (fun j hj => ?_)
    obtain ⟨hj, hJ⟩ := hj
    by_cases hlt : j < a.length
    · have hlt' : j < b.length := by omega
      by_cases h : a[j] = b[j]
      · have h' : ¬ a[j] ≠ b[j] := fun k => k h
        refine wO ?_
        refine ⟨j + 1, ⟨hlt, same_step a b j hlt hlt' h hJ⟩, by omega, ?_⟩
        (refine Go2.sub ⟨?_, ?_, ?_⟩ <;> repeat' (first | exact True.intro | rfl | apply And.intro))
      · have h' : a[j] ≠ b[j] := h
        rw [same_no a b j hlt hlt' h]
        refine wO ?_
        exact fin ⟨res_of rfl rfl rfl, trivial⟩
    · have : j = a.length := by omega
      subst this
      rw [List.take_length, hl, List.take_length] at hJ
      rw [decide_eq_true hJ]
      refine wO ?_
      exact fin ⟨res_of rfl rfl rfl, trivial⟩
  · rw [show decide (a = b) = false from decide_eq_false fun k => hl (by rw [k])]
    refine wO ?_
    exact fin ⟨res_of rfl rfl rfl, trivial⟩
end Go.Proofs.Ytkpjkfjlpiidbaa

namespace Go.Proofs.Ytkpjkfjlpiidbaa
open Go Go.RowKit
set_option linter.unusedVariables false
set_option linter.unusedSimpArgs false
set_option maxRecDepth 100000

theorem a_lplace (v n : Int) (h0 : 0 < n) (h1 : n ≤ 9223372036854775807) (hv : -9223372036854775808 ≤ v ∧ v ≤ 9223372036854775807) : AFn Try.prog 28 [intA v, intA n] (intA (v % n)) := fun U w vs h => by
  obtain ⟨v1, us, rfl, k1, h⟩ := rdp_one h
  obtain ⟨v2, us, rfl, k2, h⟩ := rdp_one h
  obtain rfl := rdp_nil h
  rw [int_arg k1, int_arg k2]
  exact (lplace_any v n w h0 h1 hv).mono fun e w' ⟨q1, q2⟩ => ⟨_, q1, is_v (w := w) rfl, by rw [q2]; exact Ext.refl w⟩
end Go.Proofs.Ytkpjkfjlpiidbaa

namespace Go.Proofs.Ytkpjkfjlpiidbaa
open Go Go.RowKit
set_option linter.unusedVariables false
set_option linter.unusedSimpArgs false
set_option maxRecDepth 100000

/-- where a key stands, or would -/
def atOf (cmp : Key → Key → Int) (x : Key) : List Key → Nat
  | [] => 0
  | y :: l => if cmp y x < 0 then atOf cmp x l + 1 else 0
theorem atOf_le (cmp : Key → Key → Int) (x : Key) : ∀ l, atOf cmp x l ≤ l.length
  | [] => Nat.le_refl _
  | y :: l => by
    unfold atOf
    split
    · have := atOf_le cmp x l; simp; omega
    · simp
theorem atOf_lt (cmp : Key → Key → Int) (x : Key) : ∀ (l : List Key) (i : Nat) (h : i < l.length), i < atOf cmp x l → cmp l[i] x < 0
  | y :: l, i, h, hi => by
    unfold atOf at hi
    split at hi
    · rename_i c
      cases i with
      | zero => exact c
      | succ i => exact atOf_lt cmp x l i (by simpa using h) (by omega)
    · omega
theorem atOf_not (cmp : Key → Key → Int) (x : Key) : ∀ (l : List Key) (h : atOf cmp x l < l.length), ¬ cmp l[atOf cmp x l] x < 0
  | y :: l, h => by
    by_cases c : cmp y x < 0
    · have e : atOf cmp x (y :: l) = atOf cmp x l + 1 := by rw [atOf, if_pos c]
      simp only [e, List.getElem_cons_succ]
      exact atOf_not cmp x l (by rw [e] at h; simpa using h)
    · have e : atOf cmp x (y :: l) = 0 := by rw [atOf, if_neg c]
      simp only [e, List.getElem_cons_zero]
      exact c
def putKey (cmp : Key → Key → Int) (out : List Key) (x : Key) : List Key :=
  if x.ok = true then (if (atOf cmp x out < out.length ∧ out[atOf cmp x out]? = some x) then out else out.take (atOf cmp x out) ++ [x] ++ out.drop (atOf cmp x out)) else out
def orderK (l : List Key) : List Key := l.foldl (putKey refCmp) []
theorem putKey_le (cmp : Key → Key → Int) (out : List Key) (x : Key) : (putKey cmp out x).length ≤ out.length + 1 := by
  unfold putKey
  split
  · split
    · omega
    · simp; omega
  · omega
theorem orderK_step (l : List Key) (i : Nat) (h : i < l.length) : orderK (l.take (i + 1)) = putKey refCmp (orderK (l.take i)) l[i] := by
  unfold orderK
  rw [List.take_succ_eq_append_getElem h, List.foldl_append]
  rfl
theorem orderK_le (l : List Key) : ∀ i, (orderK (l.take i)).length ≤ i
  | 0 => by simp [orderK]
  | i + 1 => by
    by_cases h : i < l.length
    · rw [orderK_step l i h]
      have := putKey_le refCmp (orderK (l.take i)) l[i]
      have := orderK_le l i
      omega
    · rw [List.take_of_length_le (by omega), ← List.take_of_length_le (show l.length ≤ i by omega)]
      have := orderK_le l i
      omega
attribute [local irreducible] OpOK AWops AW CondB Go2 AFn thenA inBlockA noGotoA orderOk wantedA
set_option maxRecDepth 100000 in
set_option maxHeartbeats 4000000 in
theorem a_order (l : List Key) (hl : l.length ≤ 1000000) : AFn Try.prog 57 [keysA l] (keysA (orderK l)) := by
  refine AFn_intro Try.func57 rfl Try.ntmps57 rfl (by simp) [_] rfl fun E hE => ?_
  refine wO ?_
  refine AW_go (Go2.nil 3 9 rfl) ?_
  refine AW_loopI (fun i : Nat => ⟨[(0, keysA l), (4, intA i), (3, keysA (orderK (l.take i)))], []⟩) (fun i => i ≤ l.length) (fun i => l.length - i) 0 (Nat.zero_le _) (by (refine Go2.sub ⟨?_, ?_, ?_⟩ <;> repeat' (first | exact True.intro | rfl | apply And.intro))) (fun i hi => ?_)
  by_cases hlt : i < l.length
  · have hs := orderK_step l i hlt
    have hle := orderK_le l i
    generalize ho : orderK (l.take i) = out at hs hle ⊢
    have ck := acall Try.func61 (a_refkeycheck l[i]) (by decide +kernel) (by decide +kernel)
    cases hk : l[i].ok with
    | false =>
      have hk' : (!l[i].ok) = true := by rw [hk]; rfl
      refine wO ?_
      rw [hk']
      refine wO ?_
      have e : orderK (l.take (i + 1)) = out := by rw [hs]; unfold putKey; rw [if_neg (by rw [hk]; simp)]
      refine ⟨i + 1, hlt, by omega, ?_⟩
      (refine Go2.sub ⟨?_, ?_, ?_⟩ <;> repeat' (first | exact True.intro | rfl | apply And.intro))
      all_goals (rw [e]; rfl)
    | true =>
      have hk' : (!l[i].ok) = false := by rw [hk]; rfl
      refine wO ?_
      rw [hk']
      refine wO ?_
      refine AW_loopI (fun j : Nat => ⟨[(0, keysA l), (4, intA i), (3, keysA out), (5, intA j)], []⟩) (fun j => j ≤ atOf refCmp l[i] out) (fun j => atOf refCmp l[i] out - j) 0 (Nat.zero_le _) (by (refine Go2.sub ⟨?_, ?_, ?_⟩ <;> repeat' (first | exact True.intro | rfl | apply And.intro))) (fun j hj => ?_)
      have hat := atOf_le refCmp l[i] out
      by_cases hj2 : j < out.length
      · have cc := acall Try.func55 (a_refcmp out[j] l[i]) (by decide +kernel) (by decide +kernel)
        by_cases hc : refCmp out[j] l[i] < 0
        · have hj4 : j + 1 ≤ atOf refCmp l[i] out := by
            have : j ≠ atOf refCmp l[i] out := fun e => by subst e; exact atOf_not refCmp l[i] out hj2 hc
            omega
          refine wO ?_
          refine ⟨j + 1, hj4, by omega, ?_⟩
          (refine Go2.sub ⟨?_, ?_, ?_⟩ <;> repeat' (first | exact True.intro | rfl | apply And.intro))
        · have hj5 : j = atOf refCmp l[i] out := by
            have : ¬ j < atOf refCmp l[i] out := fun h => hc (atOf_lt refCmp l[i] out j hj2 h)
            omega
          by_cases he : out[j] = l[i]
          · refine wO ?_
            have e : orderK (l.take (i + 1)) = out := by
              rw [hs]; unfold putKey
              rw [if_pos hk, ← hj5, if_pos ⟨hj2, by rw [List.getElem?_eq_getElem hj2, he]⟩]
            refine ⟨i + 1, hlt, by omega, ?_⟩
            (refine Go2.sub ⟨?_, ?_, ?_⟩ <;> repeat' (first | exact True.intro | rfl | apply And.intro))
            all_goals (rw [e]; rfl)
          · refine wO ?_
            have e : orderK (l.take (i + 1)) = out.take j ++ [l[i]] ++ out.drop j := by
              rw [hs]; unfold putKey
              rw [if_pos hk, ← hj5, if_neg (fun h => he (by have := h.2; rw [List.getElem?_eq_getElem hj2] at this; injection this))]
            refine ⟨i + 1, hlt, by omega, Go2.trans (Go2.weak 3 rfl) ?_⟩
            (refine Go2.sub ⟨?_, ?_, ?_⟩ <;> repeat' (first | exact True.intro | rfl | apply And.intro))
            all_goals (rw [e]; rfl)
      · have hj5 : j = atOf refCmp l[i] out := by omega
        refine wO ?_
        have e : orderK (l.take (i + 1)) = out.take j ++ [l[i]] ++ out.drop j := by
          rw [hs]; unfold putKey
          rw [if_pos hk, ← hj5, if_neg (fun h => hj2 h.1)]
        refine ⟨i + 1, hlt, by omega, Go2.trans (Go2.weak 3 rfl) ?_⟩
        (refine Go2.sub ⟨?_, ?_, ?_⟩ <;> repeat' (first | exact True.intro | rfl | apply And.intro))
        all_goals (rw [e]; rfl)
  · refine wO ?_
    have : i = l.length := by omega
    subst this
    exact fin ⟨res_sl (by rw [List.take_length]; rfl), trivial⟩
/-- pivots by numbers -/
def pivStep (most : Int) (out : List Key) (v : Int) : List Key := if ((orderK (out ++ [lawKey v])).length : Int) ≤ most then orderK (out ++ [lawKey v]) else out
def pivK (l : List Int) (most : Int) : List Key := (l.take 20).foldl (pivStep most) []
theorem orderK_len (l : List Key) : (orderK l).length ≤ l.length := by
  have := orderK_le l l.length
  rwa [List.take_length] at this
theorem pivStep_le (most : Int) (out : List Key) (v : Int) : (pivStep most out v).length ≤ out.length + 1 := by
  unfold pivStep
  split
  · have := orderK_len (out ++ [lawKey v])
    simpa using this
  · omega
def pivAt (l : List Int) (most : Int) (i : Nat) : List Key := (l.take i).foldl (pivStep most) []
theorem pivAt_step (l : List Int) (most : Int) (i : Nat) (h : i < l.length) : pivAt l most (i + 1) = pivStep most (pivAt l most i) l[i] := by
  unfold pivAt
  rw [List.take_succ_eq_append_getElem h, List.foldl_append]
  rfl
theorem pivAt_le (l : List Int) (most : Int) : ∀ i, (pivAt l most i).length ≤ i
  | 0 => by simp [pivAt]
  | i + 1 => by
    by_cases h : i < l.length
    · rw [pivAt_step l most i h]
      have := pivStep_le most (pivAt l most i) l[i]
      have := pivAt_le l most i
      omega
    · have e : pivAt l most (i + 1) = pivAt l most i := by unfold pivAt; rw [List.take_of_length_le (by omega), List.take_of_length_le (by omega)]
      rw [e]
      have := pivAt_le l most i
      omega
theorem pivAt_end (l : List Int) (most : Int) (i : Nat) (h : i ≤ l.length) (h20 : i ≤ 20) (hn : ¬ (i < l.length ∧ i < 20)) : pivAt l most i = pivK l most := by
  unfold pivAt pivK
  congr 1
  by_cases c : i < l.length
  · rw [show i = 20 from by omega]
  · rw [List.take_of_length_le (by omega), List.take_of_length_le (by omega)]
set_option maxRecDepth 100000 in
set_option maxHeartbeats 4000000 in
theorem a_pivots (l : List Int) (most : Int) (hl : l.length ≤ 1000000000000000000) (hb : ∀ n ∈ l, -9223372036854775808 ≤ n ∧ n ≤ 9223372036854775807) : AFn Try.prog 34 [intsA l, intA most] (keysA (pivK l most)) := by
  refine AFn_intro Try.func34 rfl Try.ntmps34 rfl (by simp) [_] rfl fun E hE => ?_
  refine wO ?_
  refine AW_go (Go2.nil 5 9 rfl) ?_
  refine AW_loopI (fun i : Nat => ⟨[(0, intsA l), (1, intA most), (6, intA i), (5, keysA (pivAt l most i))], []⟩) (fun i => i ≤ l.length ∧ i ≤ 20) (fun i => l.length - i) 0 ⟨Nat.zero_le _, Nat.zero_le _⟩ (by (refine Go2.sub ⟨?_, ?_, ?_⟩ <;> repeat' (first | exact True.intro | rfl | apply And.intro))) (fun i hi => ?_)
  obtain ⟨hi, hi20⟩ := hi
  by_cases hlt : i < l.length ∧ i < 20
  · obtain ⟨hlt, hlt20⟩ := hlt
    have hs := pivAt_step l most i hlt
    have hle := pivAt_le l most i
    generalize ho : pivAt l most i = out at hs hle ⊢
    have hc := a_lkey l[i] (hb _ (List.getElem_mem hlt))
    have hord := a_order (out ++ [lawKey l[i]]) (by simp; omega)
    have c1 := acall Try.func29 (hc) (by decide +kernel) (by decide +kernel)
    have c2 := acall Try.func57 (hord) (by decide +kernel) (by decide +kernel)
    by_cases hm : ((orderK (out ++ [lawKey l[i]])).length : Int) ≤ most
    · refine wO ?_
      have e : pivAt l most (i + 1) = orderK (out ++ [lawKey l[i]]) := by rw [hs]; unfold pivStep; rw [if_pos hm]
      refine ⟨i + 1, ⟨hlt, hlt20⟩, by omega, ?_⟩
      (refine Go2.sub ⟨?_, ?_, ?_⟩ <;> repeat' (first | exact True.intro | rfl | apply And.intro))
      all_goals (rw [e]; rfl)
    · refine wO ?_
      have e : pivAt l most (i + 1) = out := by rw [hs]; unfold pivStep; rw [if_neg hm]
      refine ⟨i + 1, ⟨hlt, hlt20⟩, by omega, ?_⟩
      (refine Go2.sub ⟨?_, ?_, ?_⟩ <;> repeat' (first | exact True.intro | rfl | apply And.intro))
      all_goals (rw [e]; rfl)
  · have he := pivAt_end l most i hi hi20 hlt
    rw [← he]
    by_cases hj : i < l.length
    · refine wO ?_
      exact fin ⟨res_sl rfl, trivial⟩
    · refine wO ?_
      exact fin ⟨res_sl rfl, trivial⟩
end Go.Proofs.Ytkpjkfjlpiidbaa

namespace Go.Proofs.Ytkpjkfjlpiidbaa
open Go Go.RowKit
set_option linter.unusedVariables false
set_option linter.unusedSimpArgs false
set_option maxRecDepth 100000

def Rise (l : List Key) : Prop := (∀ k ∈ l, k.ok = true) ∧ l.Pairwise fun a b => a.rank < b.rank
theorem Rise.nil : Rise [] := ⟨(fun k h => by cases h), List.Pairwise.nil⟩
theorem Rise.tail {x : Key} {l : List Key} (h : Rise (x :: l)) : Rise l := ⟨fun k hk => h.1 k (List.mem_cons_of_mem _ hk), (List.pairwise_cons.1 h.2).2⟩
theorem Rise.at {l : List Key} (h : Rise l) {i j : Nat} (hi : i < l.length) (hj : j < l.length) (hij : i < j) : l[i].rank < l[j].rank := List.pairwise_iff_getElem.1 h.2 i j hi hj hij
theorem Rise.ok {l : List Key} (h : Rise l) {i : Nat} (hi : i < l.length) : l[i].ok = true := h.1 _ (List.getElem_mem hi)
theorem kidBy_lt {l : List Key} (h : Rise l) {x : Key} : ∀ {i : Nat} (hi : i < l.length), i < kidBy keyCmp x l → l[i].rank ≤ x.rank := by
  induction l with
  | nil => intro i hi; cases hi
  | cons y l ih =>
    intro i hi hk
    by_cases c : keyCmp y x ≤ 0
    · cases i with
      | zero => rw [keyCmp_rank, sgn_le] at c; exact c
      | succ i =>
        have e : kidBy keyCmp x (y :: l) = kidBy keyCmp x l + 1 := by unfold kidBy; rw [List.countP_cons]; simp [c]
        exact ih h.tail (by simpa using hi) (by omega)
    · exfalso
      have e : kidBy keyCmp x (y :: l) = 0 := by
        unfold kidBy
        rw [List.countP_eq_zero]
        intro z hz
        rw [keyCmp_rank, sgn_le] at c
        rcases List.mem_cons.1 hz with rfl | hz
        · simp only [keyCmp_rank, sgn_le, decide_eq_true_eq]; omega
        · have := (List.pairwise_cons.1 h.2).1 z hz
          simp only [keyCmp_rank, sgn_le, decide_eq_true_eq]; omega
      omega
theorem kidBy_ge {l : List Key} (h : Rise l) {x : Key} : ∀ {i : Nat} (hi : i < l.length), kidBy keyCmp x l ≤ i → x.rank < l[i].rank := by
  induction l with
  | nil => intro i hi; cases hi
  | cons y l ih =>
    intro i hi hk
    by_cases c : keyCmp y x ≤ 0
    · have e : kidBy keyCmp x (y :: l) = kidBy keyCmp x l + 1 := by unfold kidBy; rw [List.countP_cons]; simp [c]
      cases i with
      | zero => omega
      | succ i => exact ih h.tail (by simpa using hi) (by omega)
    · rw [keyCmp_rank, sgn_le] at c
      cases i with
      | zero => simp; omega
      | succ i =>
        have hi' : i < l.length := by simpa using hi
        have := (List.pairwise_cons.1 h.2).1 _ (List.getElem_mem hi')
        simp only [List.getElem_cons_succ]
        omega
theorem kidBy_ref {l : List Key} (h : Rise l) {x : Key} (hx : x.ok = true) : kidBy refCmp x l = kidBy keyCmp x l := by
  unfold kidBy
  apply List.countP_congr
  intro z hz
  rw [refCmp_key (h.1 z hz) hx]
theorem atOf_ge {l : List Key} (h : Rise l) {x : Key} (hx : x.ok = true) {i : Nat} (hi : i < l.length) (hk : atOf refCmp x l ≤ i) : x.rank ≤ l[i].rank := by
  have h0 : atOf refCmp x l < l.length := by omega
  have hn := atOf_not refCmp x l h0
  rw [refCmp_rank (h.ok h0) hx, sgn_neg] at hn
  by_cases e : atOf refCmp x l = i
  · subst e; omega
  · have := h.at h0 hi (by omega)
    omega
theorem putKey_rise {l : List Key} (h : Rise l) (x : Key) : Rise (putKey refCmp l x) := by
  unfold putKey
  split
  · rename_i hx
    split
    · exact h
    · rename_i hn
      have hlt : ∀ i (hi : i < l.length), i < atOf refCmp x l → l[i].rank < x.rank := fun i hi c => by
        have := atOf_lt refCmp x l i hi c
        rwa [refCmp_rank (h.ok hi) hx, sgn_neg] at this
      have hge : ∀ i (hi : i < l.length), atOf refCmp x l ≤ i → x.rank < l[i].rank := fun i hi c => by
        have h1 := atOf_ge h hx hi c
        have h0 : atOf refCmp x l < l.length := by omega
        have h2 := atOf_ge h hx h0 (Nat.le_refl _)
        have h3 : l[atOf refCmp x l].rank ≠ x.rank := fun e => hn ⟨h0, by rw [List.getElem?_eq_getElem h0, (rank_inj (h.ok h0) hx).1 e]⟩
        by_cases e : atOf refCmp x l = i
        · subst e; omega
        · have := h.at h0 hi (by omega)
          omega
      refine ⟨fun k hk => ?_, ?_⟩
      · simp only [List.append_assoc, List.mem_append, List.mem_cons, List.not_mem_nil, or_false] at hk
        rcases hk with hk | rfl | hk
        · exact h.1 k (List.mem_of_mem_take hk)
        · exact hx
        · exact h.1 k (List.mem_of_mem_drop hk)
      · rw [List.append_assoc, List.pairwise_append]
        refine ⟨h.2.sublist (List.take_sublist _ _), ?_, ?_⟩
        · rw [List.singleton_append, List.pairwise_cons]
          refine ⟨fun z hz => ?_, h.2.sublist (List.drop_sublist _ _)⟩
          obtain ⟨i, hi, rfl⟩ := List.mem_iff_getElem.1 hz
          rw [List.getElem_drop]
          exact hge _ (by simp at hi; omega) (by omega)
        · intro a ha b hb
          obtain ⟨i, hi, rfl⟩ := List.mem_iff_getElem.1 ha
          rw [List.length_take] at hi
          rw [List.getElem_take]
          have h1 := hlt i (by omega) (by omega)
          rcases List.mem_append.1 hb with hb | hb
          · rw [List.mem_singleton] at hb; subst hb; exact h1
          · obtain ⟨j, hj, rfl⟩ := List.mem_iff_getElem.1 hb
            rw [List.getElem_drop]
            have := hge (atOf refCmp x l + j) (by simp at hj; omega) (by omega)
            omega
  · exact h
theorem orderK_rise (l : List Key) : Rise (orderK l) := by
  unfold orderK
  have : ∀ (l out : List Key), Rise out → Rise (l.foldl (putKey refCmp) out) := by
    intro l
    induction l with
    | nil => intro out h; exact h
    | cons x l ih => intro out h; exact ih _ (putKey_rise h x)
  exact this l [] Rise.nil
theorem pivK_rise (l : List Int) (most : Int) : Rise (pivK l most) := by
  unfold pivK
  have : ∀ (l : List Int) (out : List Key), Rise out → Rise (l.foldl (pivStep most) out) := by
    intro l
    induction l with
    | nil => intro out h; exact h
    | cons x l ih =>
      intro out h
      refine ih _ ?_
      unfold pivStep
      split
      · exact orderK_rise _
      · exact h
  exact this _ [] Rise.nil
theorem pivK_le (l : List Int) (most : Int) (h : 0 ≤ most) : ((pivK l most).length : Int) ≤ most := by
  unfold pivK
  have : ∀ (l : List Int) (out : List Key), (out.length : Int) ≤ most → ((l.foldl (pivStep most) out).length : Int) ≤ most := by
    intro l
    induction l with
    | nil => intro out h; exact h
    | cons x l ih =>
      intro out h
      refine ih _ ?_
      unfold pivStep
      split
      · assumption
      · exact h
  exact this _ [] (by simpa using h)
end Go.Proofs.Ytkpjkfjlpiidbaa

namespace Go.Proofs.Ytkpjkfjlpiidbaa
open Go Go.RowKit
set_option linter.unusedVariables false
set_option linter.unusedSimpArgs false
set_option maxRecDepth 100000

def keepP (cuts : List Key) (n : Nat) (m : Msg) : Bool := keepLo cuts m n && keepHi cuts m n
theorem part_keep {l : List Msg} (h : BSrt l) (cuts : List Key) (n : Nat) : l.filter (keepP cuts n) = bfPart l cuts n := part_filter h cuts n
theorem keepLo_zero (cuts : List Key) (m : Msg) : keepLo cuts m 0 = true := rfl
theorem keepLo_succ {cuts : List Key} (m : Msg) {i : Nat} (h : i < cuts.length) : keepLo cuts m (i + 1) = decide (cuts[i].rank ≤ m.key.rank) := by
  simp only [keepLo, List.getElem?_eq_getElem h]
theorem keepHi_in {cuts : List Key} (m : Msg) {n : Nat} (h : n < cuts.length) : keepHi cuts m n = decide (m.key.rank < cuts[n].rank) := by
  simp only [keepHi, List.getElem?_eq_getElem h]
theorem keepHi_out {cuts : List Key} (m : Msg) {n : Nat} (h : ¬ n < cuts.length) : keepHi cuts m n = true := by
  simp only [keepHi, List.getElem?_eq_none (by omega : cuts.length ≤ n)]
theorem pFrom_succ {cuts : List Key} (l : List Msg) {i : Nat} (h : i < cuts.length) : pFrom cuts l (i + 1) = bfAt cuts[i] l := by
  simp only [pFrom, List.getElem?_eq_getElem h]
theorem pTo_in {cuts : List Key} (l : List Msg) {n : Nat} (h : n < cuts.length) : pTo cuts l n = bfAt cuts[n] l := by
  simp only [pTo, List.getElem?_eq_getElem h]
theorem pTo_out {cuts : List Key} (l : List Msg) {n : Nat} (h : ¬ n < cuts.length) : pTo cuts l n = l.length := by
  simp only [pTo, List.getElem?_eq_none (by omega : cuts.length ≤ n)]
theorem pTo_le (cuts : List Key) (l : List Msg) (n : Nat) : pTo cuts l n ≤ l.length := by
  unfold pTo
  split
  · exact bfAt_le _ _
  · exact Nat.le_refl _
theorem part_nil {l : List Msg} {a b : Nat} (h : b ≤ a) : (l.take b).drop a = [] := List.drop_eq_nil_of_le (by rw [List.length_take]; omega)
attribute [local irreducible] OpOK AWops AW CondB Go2 AFn thenA inBlockA noGotoA orderOk wantedA
set_option maxRecDepth 100000 in
set_option maxHeartbeats 8000000 in
theorem a_bufpart_no (l : List Msg) (cuts : List Key) (i : Int) (h : i < 0 ∨ (cuts.length : Int) < i) : AFn Try.prog 38 [msgsA l, keysA cuts, intA i] (msgsA []) := by
  refine AFn_intro Try.func38 rfl Try.ntmps38 rfl (by simp) [_] rfl fun E hE => ?_
  by_cases c : i < 0
  · refine wB ?_
    exact fin ⟨res_nil rfl, trivial⟩
  · have c2 : (cuts.length : Int) < i := h.resolve_left c
    refine wB ?_
    exact fin ⟨res_nil rfl, trivial⟩
set_option maxRecDepth 100000 in
set_option maxHeartbeats 8000000 in
theorem a_ref06part_no (l : List Msg) (cuts : List Key) (i : Int) (h : i < 0 ∨ (cuts.length : Int) < i) : AFn Try.prog 39 [msgsA l, keysA cuts, intA i] (msgsA []) := by
  refine AFn_intro Try.func39 rfl Try.ntmps39 rfl (by simp) [_] rfl fun E hE => ?_
  by_cases c : i < 0
  · refine wB ?_
    exact fin ⟨res_nil rfl, trivial⟩
  · have c2 : (cuts.length : Int) < i := h.resolve_left c
    refine wB ?_
    exact fin ⟨res_nil rfl, trivial⟩
set_option maxRecDepth 100000 in
set_option maxHeartbeats 8000000 in
theorem a_bufpart (l : List Msg) (cuts : List Key) (n : Nat) (h : BSrt l) (hn : n ≤ cuts.length) (hl : l.length ≤ 100000000) (hl2 : cuts.length ≤ 100000000) : AFn Try.prog 38 [msgsA l, keysA cuts, intA n] (msgsA (bfPart l cuts n)) := by
  refine AFn_intro Try.func38 rfl Try.ntmps38 rfl (by simp) [_] rfl fun E hE => ?_
  unfold bfPart
  cases n with
  | zero =>
    rw [show pFrom cuts l 0 = 0 from rfl]
    by_cases c : 0 < cuts.length
    · rw [pTo_in l c]
      have d1 := acall Try.func60 (a_bufplace l cuts[0] h (by omega)) (by decide +kernel) (by decide +kernel)
      have q1 := bfAt_le cuts[0] l
      by_cases z : bfAt cuts[0] l ≤ 0
      · rw [part_nil z]
        refine wB ?_
        exact fin ⟨res_nil rfl, trivial⟩
      · refine wB ?_
        (apply Wv; (focus (exact o_cut3 rfl rfl rfl rfl rfl rfl (by first | exact Nat.zero_le _ | omega) (by omega))); (focus (first | exact want_n | exact want_g rfl (by with_reducible rfl))))
        refine wB ?_
        exact fin ⟨res_sl rfl, trivial⟩
    · rw [pTo_out l c]
      by_cases z : l.length ≤ 0
      · rw [part_nil z]
        refine wB ?_
        exact fin ⟨res_nil rfl, trivial⟩
      · refine wB ?_
        (apply Wv; (focus (exact o_cut3 rfl rfl rfl rfl rfl rfl (by first | exact Nat.zero_le _ | omega) (by omega))); (focus (first | exact want_n | exact want_g rfl (by with_reducible rfl))))
        refine wB ?_
        exact fin ⟨res_sl rfl, trivial⟩
  | succ m =>
    have hm : m < cuts.length := hn
    rw [pFrom_succ l hm]
    have q0 := bfAt_le cuts[m] l
    have d0 := acall Try.func60 (a_bufplace l cuts[m] h (by omega)) (by decide +kernel) (by decide +kernel)
    by_cases c : m + 1 < cuts.length
    · rw [pTo_in l c]
      have d1 := acall Try.func60 (a_bufplace l cuts[m + 1] h (by omega)) (by decide +kernel) (by decide +kernel)
      have q1 := bfAt_le cuts[m + 1] l
      by_cases z : bfAt cuts[m + 1] l ≤ bfAt cuts[m] l
      · rw [part_nil z]
        refine wB ?_
        exact fin ⟨res_nil rfl, trivial⟩
      · refine wB ?_
        (apply Wv; (focus (exact o_cut3 rfl rfl rfl rfl rfl rfl (by first | exact Nat.zero_le _ | omega) (by omega))); (focus (first | exact want_n | exact want_g rfl (by with_reducible rfl))))
        refine wB ?_
        exact fin ⟨res_sl rfl, trivial⟩
    · rw [pTo_out l c]
      by_cases z : l.length ≤ bfAt cuts[m] l
      · rw [part_nil z]
        refine wB ?_
        exact fin ⟨res_nil rfl, trivial⟩
      · refine wB ?_
        (apply Wv; (focus (exact o_cut3 rfl rfl rfl rfl rfl rfl (by first | exact Nat.zero_le _ | omega) (by omega))); (focus (first | exact want_n | exact want_g rfl (by with_reducible rfl))))
        refine wB ?_
        exact fin ⟨res_sl rfl, trivial⟩
set_option maxRecDepth 100000 in
set_option maxHeartbeats 8000000 in
theorem a_part00 (l : List Msg) (cuts : List Key) (h : Bf l) (hr : Rise cuts) (k0 : 0 < cuts.length) (hl : l.length ≤ 100000000) (hl2 : cuts.length ≤ 100000000) : AFn Try.prog 39 [msgsA l, keysA cuts, intA ((0 : Nat) : Nat)] (msgsA (bfPart l cuts (0))) := by
    rw [← part_keep h.srt]
    refine AFn_intro Try.func39 rfl Try.ntmps39 rfl (by simp) [_] rfl fun E hE => ?_
    refine wB ?_
    refine AW_go (Go2.token 7 7 28 48 rfl rfl) ?_
    refine AW_loopI (fun j : Nat => ⟨[(0, msgsA l), (1, keysA cuts), (2, intA ((0 : Nat) : Nat)), (8, intA j), (7, .sl (some 7) 29 (((l.take j).filter (keepP cuts (0))).map Msg.av))], [(7, .tail 48 29 ((l.take j).filter (keepP cuts (0))).length)]⟩) (fun j => j ≤ l.length) (fun j => l.length - j) 0 (Nat.zero_le _) (by (refine Go2.sub ⟨?_, ?_, ?_⟩ <;> repeat' (first | exact True.intro | rfl | apply And.intro))) (fun j hj => ?_)
    have hfl := List.length_filter_le (keepP cuts (0)) (l.take j)
    rw [List.length_take] at hfl
    by_cases c : j < l.length
    · have hs := filter_snoc (keepP cuts (0)) j c
      have hjk := (Msg.spec (h.ok _ (List.getElem_mem c))).2.2.1
      have hc := refCmp_rank hjk (hr.ok k0)
      have d1 := acall Try.func55 (a_refcmp l[j].key cuts[0]) (by decide +kernel) (by decide +kernel)
      by_cases y : l[j].key.rank < cuts[0].rank
      · have hq : ¬ (0 : Int) ≤ refCmp l[j].key cuts[0] := fun e => by rw [hc] at e; have := (sgn_ge _ _).1 e; omega
        have hg : keepP cuts (0) l[j] = true := by unfold keepP; rw [keepLo_zero, keepHi_in _ k0, decide_eq_true y]; rfl
        rw [hg] at hs
        simp only [if_true] at hs
        refine wB ?_
        refine ⟨j + 1, c, by omega, ?_⟩
        rw [hs]
        (refine Go2.sub ⟨?_, ?_, ?_⟩ <;> repeat' (first | exact True.intro | rfl | apply And.intro))
      · have hq : (0 : Int) ≤ refCmp l[j].key cuts[0] := by rw [hc]; exact (sgn_ge _ _).2 (by omega)
        have hg : keepP cuts (0) l[j] = false := by unfold keepP; rw [keepLo_zero, keepHi_in _ k0, decide_eq_false y]; rfl
        rw [hg] at hs
        simp only [Bool.false_eq_true, if_false, List.append_nil] at hs
        refine wB ?_
        refine ⟨j + 1, c, by omega, ?_⟩
        rw [hs]
        (refine Go2.sub ⟨?_, ?_, ?_⟩ <;> repeat' (first | exact True.intro | rfl | apply And.intro))
    · obtain rfl : j = l.length := by omega
      rw [List.take_length]
      refine wB ?_
      exact fin ⟨res_sl rfl, trivial⟩
set_option maxRecDepth 100000 in
set_option maxHeartbeats 8000000 in
theorem a_part01 (l : List Msg) (cuts : List Key) (h : Bf l) (hr : Rise cuts) (k0 : ¬ 0 < cuts.length) (hl : l.length ≤ 100000000) (hl2 : cuts.length ≤ 100000000) : AFn Try.prog 39 [msgsA l, keysA cuts, intA ((0 : Nat) : Nat)] (msgsA (bfPart l cuts (0))) := by
    rw [← part_keep h.srt]
    refine AFn_intro Try.func39 rfl Try.ntmps39 rfl (by simp) [_] rfl fun E hE => ?_
    refine wB ?_
    refine AW_go (Go2.token 7 7 28 48 rfl rfl) ?_
    refine AW_loopI (fun j : Nat => ⟨[(0, msgsA l), (1, keysA cuts), (2, intA ((0 : Nat) : Nat)), (8, intA j), (7, .sl (some 7) 29 (((l.take j).filter (keepP cuts (0))).map Msg.av))], [(7, .tail 48 29 ((l.take j).filter (keepP cuts (0))).length)]⟩) (fun j => j ≤ l.length) (fun j => l.length - j) 0 (Nat.zero_le _) (by (refine Go2.sub ⟨?_, ?_, ?_⟩ <;> repeat' (first | exact True.intro | rfl | apply And.intro))) (fun j hj => ?_)
    have hfl := List.length_filter_le (keepP cuts (0)) (l.take j)
    rw [List.length_take] at hfl
    by_cases c : j < l.length
    · have hs := filter_snoc (keepP cuts (0)) j c
      have hjk := (Msg.spec (h.ok _ (List.getElem_mem c))).2.2.1
      have hg : keepP cuts (0) l[j] = true := by unfold keepP; rw [keepLo_zero, keepHi_out _ k0]; rfl
      rw [hg] at hs
      simp only [if_true] at hs
      refine wB ?_
      refine ⟨j + 1, c, by omega, ?_⟩
      rw [hs]
      (refine Go2.sub ⟨?_, ?_, ?_⟩ <;> repeat' (first | exact True.intro | rfl | apply And.intro))
    · obtain rfl : j = l.length := by omega
      rw [List.take_length]
      refine wB ?_
      exact fin ⟨res_sl rfl, trivial⟩
set_option maxRecDepth 100000 in
set_option maxHeartbeats 8000000 in
theorem a_part10 (l : List Msg) (cuts : List Key) (m : Nat) (h : Bf l) (hr : Rise cuts) (hm : m < cuts.length) (k0 : m + 1 < cuts.length) (hl : l.length ≤ 100000000) (hl2 : cuts.length ≤ 100000000) : AFn Try.prog 39 [msgsA l, keysA cuts, intA ((m + 1 : Nat) : Nat)] (msgsA (bfPart l cuts (m + 1))) := by
    rw [← part_keep h.srt]
    refine AFn_intro Try.func39 rfl Try.ntmps39 rfl (by simp) [_] rfl fun E hE => ?_
    refine wB ?_
    refine AW_go (Go2.token 7 7 28 48 rfl rfl) ?_
    refine AW_loopI (fun j : Nat => ⟨[(0, msgsA l), (1, keysA cuts), (2, intA ((m + 1 : Nat) : Nat)), (8, intA j), (7, .sl (some 7) 29 (((l.take j).filter (keepP cuts (m + 1))).map Msg.av))], [(7, .tail 48 29 ((l.take j).filter (keepP cuts (m + 1))).length)]⟩) (fun j => j ≤ l.length) (fun j => l.length - j) 0 (Nat.zero_le _) (by (refine Go2.sub ⟨?_, ?_, ?_⟩ <;> repeat' (first | exact True.intro | rfl | apply And.intro))) (fun j hj => ?_)
    have hfl := List.length_filter_le (keepP cuts (m + 1)) (l.take j)
    rw [List.length_take] at hfl
    by_cases c : j < l.length
    · have hs := filter_snoc (keepP cuts (m + 1)) j c
      have hjk := (Msg.spec (h.ok _ (List.getElem_mem c))).2.2.1
      have hc := refCmp_rank hjk (hr.ok hm)
      have hc1 := refCmp_rank hjk (hr.ok k0)
      have d0 := acall Try.func55 (a_refcmp l[j].key cuts[m]) (by decide +kernel) (by decide +kernel)
      have d1 := acall Try.func55 (a_refcmp l[j].key cuts[m + 1]) (by decide +kernel) (by decide +kernel)
      by_cases x : cuts[m].rank ≤ l[j].key.rank
      · have hp : ¬ refCmp l[j].key cuts[m] < 0 := by rw [hc, sgn_neg]; omega
        by_cases y : l[j].key.rank < cuts[m + 1].rank
        · have hq : ¬ 0 ≤ refCmp l[j].key cuts[m + 1] := by rw [hc1, sgn_ge]; omega
          have hg : keepP cuts (m + 1) l[j] = true := by unfold keepP; rw [keepLo_succ _ hm, keepHi_in _ k0, decide_eq_true x, decide_eq_true y]; rfl
          rw [hg] at hs
          simp only [if_true] at hs
          refine wB ?_
          refine ⟨j + 1, c, by omega, ?_⟩
          rw [hs]
          (refine Go2.sub ⟨?_, ?_, ?_⟩ <;> repeat' (first | exact True.intro | rfl | apply And.intro))
        · have hq : 0 ≤ refCmp l[j].key cuts[m + 1] := by rw [hc1, sgn_ge]; omega
          have hg : keepP cuts (m + 1) l[j] = false := by unfold keepP; rw [keepLo_succ _ hm, keepHi_in _ k0, decide_eq_true x, decide_eq_false y]; rfl
          rw [hg] at hs
          simp only [Bool.false_eq_true, if_false, List.append_nil] at hs
          refine wB ?_
          refine ⟨j + 1, c, by omega, ?_⟩
          rw [hs]
          (refine Go2.sub ⟨?_, ?_, ?_⟩ <;> repeat' (first | exact True.intro | rfl | apply And.intro))
      · have hp : refCmp l[j].key cuts[m] < 0 := by rw [hc, sgn_neg]; omega
        have hg : keepP cuts (m + 1) l[j] = false := by unfold keepP; rw [keepLo_succ _ hm, decide_eq_false x]; rfl
        rw [hg] at hs
        simp only [Bool.false_eq_true, if_false, List.append_nil] at hs
        refine wB ?_
        refine ⟨j + 1, c, by omega, ?_⟩
        rw [hs]
        (refine Go2.sub ⟨?_, ?_, ?_⟩ <;> repeat' (first | exact True.intro | rfl | apply And.intro))
    · obtain rfl : j = l.length := by omega
      rw [List.take_length]
      refine wB ?_
      exact fin ⟨res_sl rfl, trivial⟩
set_option maxRecDepth 100000 in
set_option maxHeartbeats 8000000 in
theorem a_part11 (l : List Msg) (cuts : List Key) (m : Nat) (h : Bf l) (hr : Rise cuts) (hm : m < cuts.length) (k0 : ¬ m + 1 < cuts.length) (hl : l.length ≤ 100000000) (hl2 : cuts.length ≤ 100000000) : AFn Try.prog 39 [msgsA l, keysA cuts, intA ((m + 1 : Nat) : Nat)] (msgsA (bfPart l cuts (m + 1))) := by
    rw [← part_keep h.srt]
    refine AFn_intro Try.func39 rfl Try.ntmps39 rfl (by simp) [_] rfl fun E hE => ?_
    refine wB ?_
    refine AW_go (Go2.token 7 7 28 48 rfl rfl) ?_
    refine AW_loopI (fun j : Nat => ⟨[(0, msgsA l), (1, keysA cuts), (2, intA ((m + 1 : Nat) : Nat)), (8, intA j), (7, .sl (some 7) 29 (((l.take j).filter (keepP cuts (m + 1))).map Msg.av))], [(7, .tail 48 29 ((l.take j).filter (keepP cuts (m + 1))).length)]⟩) (fun j => j ≤ l.length) (fun j => l.length - j) 0 (Nat.zero_le _) (by (refine Go2.sub ⟨?_, ?_, ?_⟩ <;> repeat' (first | exact True.intro | rfl | apply And.intro))) (fun j hj => ?_)
    have hfl := List.length_filter_le (keepP cuts (m + 1)) (l.take j)
    rw [List.length_take] at hfl
    by_cases c : j < l.length
    · have hs := filter_snoc (keepP cuts (m + 1)) j c
      have hjk := (Msg.spec (h.ok _ (List.getElem_mem c))).2.2.1
      have hc := refCmp_rank hjk (hr.ok hm)
      have d0 := acall Try.func55 (a_refcmp l[j].key cuts[m]) (by decide +kernel) (by decide +kernel)
      by_cases x : cuts[m].rank ≤ l[j].key.rank
      · have hp : ¬ refCmp l[j].key cuts[m] < 0 := by rw [hc, sgn_neg]; omega
        have hg : keepP cuts (m + 1) l[j] = true := by unfold keepP; rw [keepLo_succ _ hm, keepHi_out _ k0, decide_eq_true x]; rfl
        rw [hg] at hs
        simp only [if_true] at hs
        refine wB ?_
        refine ⟨j + 1, c, by omega, ?_⟩
        rw [hs]
        (refine Go2.sub ⟨?_, ?_, ?_⟩ <;> repeat' (first | exact True.intro | rfl | apply And.intro))
      · have hp : refCmp l[j].key cuts[m] < 0 := by rw [hc, sgn_neg]; omega
        have hg : keepP cuts (m + 1) l[j] = false := by unfold keepP; rw [keepLo_succ _ hm, decide_eq_false x]; rfl
        rw [hg] at hs
        simp only [Bool.false_eq_true, if_false, List.append_nil] at hs
        refine wB ?_
        refine ⟨j + 1, c, by omega, ?_⟩
        rw [hs]
        (refine Go2.sub ⟨?_, ?_, ?_⟩ <;> repeat' (first | exact True.intro | rfl | apply And.intro))
    · obtain rfl : j = l.length := by omega
      rw [List.take_length]
      refine wB ?_
      exact fin ⟨res_sl rfl, trivial⟩
theorem a_ref06part (l : List Msg) (cuts : List Key) (n : Nat) (h : Bf l) (hr : Rise cuts) (hn : n ≤ cuts.length) (hl : l.length ≤ 100000000) (hl2 : cuts.length ≤ 100000000) : AFn Try.prog 39 [msgsA l, keysA cuts, intA n] (msgsA (bfPart l cuts n)) := by
  cases n with
  | zero =>
    by_cases c : 0 < cuts.length
    · exact a_part00 l cuts h hr c hl hl2
    · exact a_part01 l cuts h hr c hl hl2
  | succ m =>
    by_cases c : m + 1 < cuts.length
    · exact a_part10 l cuts m h hr hn c hl hl2
    · exact a_part11 l cuts m h hr hn c hl hl2
set_option maxRecDepth 100000 in
set_option maxHeartbeats 8000000 in
theorem a_bufcheck (l : List Msg) (hl : l.length ≤ 100000000) : AFn Try.prog 101 [msgsA l] (boolA (msgsOkB keyCmp l)) := by
  refine AFn_intro Try.func101 rfl Try.ntmps101 rfl (by simp) [_] rfl fun E hE => ?_
  have k' : (!true) = false := rfl
  have k'' : (!false) = true := rfl
  refine wB ?_
  refine AW_loopI (fun j : Nat => ⟨[(0, msgsA l), (5, msgsA l), (6, intA l.length), (7, intA j)], []⟩) (fun j => j ≤ l.length ∧ ∀ i (hi : i < l.length), i < j → l[i].ok = true ∧ ∀ a (ha : a + 1 = i), keyCmp (l[a]'(by omega)).key l[i].key < 0) (fun j => l.length - j) 0 ⟨Nat.zero_le _, fun i _ h => by omega⟩ (by (refine Go2.sub ⟨?_, ?_, ?_⟩ <;> repeat' (first | exact True.intro | rfl | apply And.intro))) (fun j hj => ?_)
  obtain ⟨j1, j2⟩ := hj
  by_cases c : j < l.length
  · have d1 := a_msgcheck l[j]
    cases hk : l[j].ok with
    | false =>
      rw [hk] at d1
      rw [msgsOkB_false (msgsOk_nok c hk)]
      have f1 := acall Try.func69 (d1) (by decide +kernel) (by decide +kernel)
      refine wB ?_
      exact fin ⟨res_of rfl rfl rfl, trivial⟩
    | true =>
      rw [hk] at d1
      have f1 := acall Try.func69 (d1) (by decide +kernel) (by decide +kernel)
      cases j with
      | zero =>
        refine wB ?_
        refine ⟨1, ⟨c, fun i hi hij => ?_⟩, by omega, ?_⟩
        · obtain rfl : i = 0 := by omega
          exact ⟨hk, fun a ha => by omega⟩
        · (refine Go2.sub ⟨?_, ?_, ?_⟩ <;> repeat' (first | exact True.intro | rfl | apply And.intro))
      | succ m =>
        have f3 := acall Try.func72 (a_keycmp l[m].key l[m + 1].key) (by decide +kernel) (by decide +kernel)
        by_cases q : 0 ≤ keyCmp l[m].key l[m + 1].key
        · rw [msgsOkB_false (msgsOk_noc c q)]
          refine wB ?_
          exact fin ⟨res_of rfl rfl rfl, trivial⟩
        · refine wB ?_
          refine ⟨m + 1 + 1, ⟨c, fun i hi hij => ?_⟩, by omega, ?_⟩
          · by_cases e : i = m + 1
            · subst e
              exact ⟨hk, fun a ha => by
                have e : a = m := by omega
                subst e; exact Int.not_le.1 q⟩
            · exact j2 i hi (by omega)
          · (refine Go2.sub ⟨?_, ?_, ?_⟩ <;> repeat' (first | exact True.intro | rfl | apply And.intro))
  · rw [msgsOkB_true (fun i hi => j2 i hi (by omega))]
    refine wB ?_
    exact fin ⟨res_of rfl rfl rfl, trivial⟩
set_option maxRecDepth 100000 in
set_option maxHeartbeats 8000000 in
theorem a_ref06check (l : List Msg) (hl : l.length ≤ 100000000) : AFn Try.prog 50 [msgsA l] (boolA (msgsOkB refCmp l)) := by
  refine AFn_intro Try.func50 rfl Try.ntmps50 rfl (by simp) [_] rfl fun E hE => ?_
  have k' : (!true) = false := rfl
  have k'' : (!false) = true := rfl
  refine wB ?_
  refine AW_loopI (fun j : Nat => ⟨[(0, msgsA l), (3, intA j)], []⟩) (fun j => j ≤ l.length ∧ ∀ i (hi : i < l.length), i < j → l[i].ok = true ∧ ∀ a (ha : a + 1 = i), refCmp (l[a]'(by omega)).key l[i].key < 0) (fun j => l.length - j) 0 ⟨Nat.zero_le _, fun i _ h => by omega⟩ (by (refine Go2.sub ⟨?_, ?_, ?_⟩ <;> repeat' (first | exact True.intro | rfl | apply And.intro))) (fun j hj => ?_)
  obtain ⟨j1, j2⟩ := hj
  by_cases c : j < l.length
  · have d1 := a_ref05check l[j]
    cases hk : l[j].ok with
    | false =>
      rw [hk] at d1
      rw [msgsOkB_false (msgsOk_nok c hk)]
      have f1 := acall Try.func64 (d1) (by decide +kernel) (by decide +kernel)
      refine wB ?_
      exact fin ⟨res_of rfl rfl rfl, trivial⟩
    | true =>
      rw [hk] at d1
      have f1 := acall Try.func64 (d1) (by decide +kernel) (by decide +kernel)
      cases j with
      | zero =>
        refine wB ?_
        refine ⟨1, ⟨c, fun i hi hij => ?_⟩, by omega, ?_⟩
        · obtain rfl : i = 0 := by omega
          exact ⟨hk, fun a ha => by omega⟩
        · (refine Go2.sub ⟨?_, ?_, ?_⟩ <;> repeat' (first | exact True.intro | rfl | apply And.intro))
      | succ m =>
        have f3 := acall Try.func55 (a_refcmp l[m].key l[m + 1].key) (by decide +kernel) (by decide +kernel)
        by_cases q : 0 ≤ refCmp l[m].key l[m + 1].key
        · rw [msgsOkB_false (msgsOk_noc c q)]
          refine wB ?_
          exact fin ⟨res_of rfl rfl rfl, trivial⟩
        · refine wB ?_
          refine ⟨m + 1 + 1, ⟨c, fun i hi hij => ?_⟩, by omega, ?_⟩
          · by_cases e : i = m + 1
            · subst e
              exact ⟨hk, fun a ha => by
                have e : a = m := by omega
                subst e; exact Int.not_le.1 q⟩
            · exact j2 i hi (by omega)
          · (refine Go2.sub ⟨?_, ?_, ?_⟩ <;> repeat' (first | exact True.intro | rfl | apply And.intro))
  · rw [msgsOkB_true (fun i hi => j2 i hi (by omega))]
    refine wB ?_
    exact fin ⟨res_of rfl rfl rfl, trivial⟩
end Go.Proofs.Ytkpjkfjlpiidbaa

namespace Go.Proofs.Ytkpjkfjlpiidbaa
open Go Go.RowKit
set_option linter.unusedVariables false
set_option linter.unusedSimpArgs false
set_option maxRecDepth 100000

def Ent.size (e : Ent) : Int := 2 + e.key.n + e.val.n
def eSum (l : List Ent) : Int := (l.map Ent.size).sum
def lfAt (k : Key) (l : List Ent) : Nat := l.countP fun e => decide (e.key.rank < k.rank)
def Srt (l : List Ent) : Prop := l.Pairwise fun a b => a.key.rank < b.key.rank
def EOk (l : List Ent) : Prop := ∀ e ∈ l, e.key.ok = true ∧ e.val.ok = true
structure Lf (l : List Ent) : Prop where
  ok : EOk l
  srt : Srt l
/-- a key's value -/
def lfGet (k : Key) (l : List Ent) : Option Vl := (l.find? fun e => decide (e.key = k)).map (·.val)
/-- what a message makes of a key's value -/
def ap (m : Msg) (o : Option Vl) : Option Vl := if m.kind = 1 then some m.val else if m.kind = 2 then none else match o with
  | some v => some (vplus v m.add)
  | none => some (fromN m.add)
def opA (o : Option Vl) : Vl × Bool := match o with
  | some v => (v, true)
  | none => (Vl.zero, false)
theorem applyM_ap (m : Msg) (o : Option Vl) : applyM (opA o).1 (opA o).2 m = opA (ap m o) := by
  unfold applyM ap
  by_cases h1 : m.kind = 1
  · rw [if_pos h1, if_pos h1]; rfl
  · rw [if_neg h1, if_neg h1]
    by_cases h2 : m.kind = 2
    · rw [if_pos h2, if_pos h2]; rfl
    · rw [if_neg h2, if_neg h2]
      cases o <;> rfl
def newE (k : Key) (o : Option Vl) : List Ent := match o with
  | some v => [⟨k, v⟩]
  | none => []
def lfSet (l : List Ent) (k : Key) (o : Option Vl) : List Ent := l.filter (fun e => decide (e.key.rank < k.rank)) ++ (newE k o ++ l.filter (fun e => decide (k.rank < e.key.rank)))
/-- the leaf behind a message -/
def lfPut (l : List Ent) (m : Msg) : List Ent := lfSet l m.key (ap m (lfGet m.key l))
def lfAll (l : List Ent) (ms : List Msg) : List Ent := ms.foldl lfPut l

theorem lfAt_le (k : Key) (l : List Ent) : lfAt k l ≤ l.length := List.countP_le_length
theorem lfAt_cons (k : Key) (e : Ent) (l : List Ent) : lfAt k (e :: l) = lfAt k l + if e.key.rank < k.rank then 1 else 0 := by
  unfold lfAt
  rw [List.countP_cons]
  simp
theorem Srt.tail {e : Ent} {l : List Ent} (h : Srt (e :: l)) : Srt l := (List.pairwise_cons.1 h).2
theorem Srt.head {e : Ent} {l : List Ent} (h : Srt (e :: l)) : ∀ b ∈ l, e.key.rank < b.key.rank := (List.pairwise_cons.1 h).1
theorem lfAt_zero {k : Key} {l : List Ent} (h : ∀ b ∈ l, k.rank ≤ b.key.rank) : lfAt k l = 0 := by
  unfold lfAt
  rw [List.countP_eq_zero]
  intro b hb
  have := h b hb
  simp; omega
theorem lfAt_iff {k : Key} {l : List Ent} (h : Srt l) : ∀ i (hi : i < l.length), (i < lfAt k l ↔ l[i].key.rank < k.rank) := by
  induction l with
  | nil => intro i hi; cases hi
  | cons e l ih =>
    intro i hi
    rw [lfAt_cons]
    by_cases c : e.key.rank < k.rank
    · rw [if_pos c]
      cases i with
      | zero => simp [c]
      | succ i => simpa using ih h.tail i (by simpa using hi)
    · rw [if_neg c]
      have hz : lfAt k l = 0 := lfAt_zero fun b hb => by have := h.head b hb; omega
      rw [hz]
      cases i with
      | zero => simp; omega
      | succ i =>
        have hi' : i < l.length := by simpa using hi
        have := h.head l[i] (List.getElem_mem hi')
        simp; omega
theorem Srt.lt {l : List Ent} (h : Srt l) {i j : Nat} (hi : i < l.length) (hj : j < l.length) (hij : i < j) : l[i].key.rank < l[j].key.rank := List.pairwise_iff_getElem.1 h i j hi hj hij
theorem Srt.inj {l : List Ent} (h : Srt l) {a b : Ent} (ha : a ∈ l) (hb : b ∈ l) (he : a.key.rank = b.key.rank) : a = b := by
  obtain ⟨i, hi, rfl⟩ := List.mem_iff_getElem.1 ha
  obtain ⟨j, hj, rfl⟩ := List.mem_iff_getElem.1 hb
  rcases Nat.lt_trichotomy i j with c | c | c
  · have := h.lt hi hj c; omega
  · subst c; rfl
  · have := h.lt hj hi c; omega
theorem lfGet_iff {l : List Ent} (h : Srt l) (k : Key) (v : Vl) : lfGet k l = some v ↔ (⟨k, v⟩ : Ent) ∈ l := by
  unfold lfGet
  constructor
  · intro hf
    rw [Option.map_eq_some_iff] at hf
    obtain ⟨e, h1, h2⟩ := hf
    have h3 := List.mem_of_find?_eq_some h1
    have h4 := List.find?_some h1
    rw [decide_eq_true_eq] at h4
    subst h4; subst h2
    exact h3
  · intro hm
    cases hf : l.find? (fun e => decide (e.key = k)) with
    | none =>
      rw [List.find?_eq_none] at hf
      have := hf _ hm
      simp at this
    | some e =>
      have h3 := List.mem_of_find?_eq_some hf
      have h4 := List.find?_some hf
      rw [decide_eq_true_eq] at h4
      have := h.inj h3 hm (by rw [h4])
      rw [this]; rfl
theorem srt_ext : ∀ {l1 l2 : List Ent}, Srt l1 → Srt l2 → (∀ e, e ∈ l1 ↔ e ∈ l2) → l1 = l2
  | [], l2, _, _, h => by
    cases l2 with
    | nil => rfl
    | cons b l => exact absurd ((h b).2 (by simp)) (by simp)
  | a :: l1, [], _, _, h => absurd ((h a).1 (by simp)) (by simp)
  | a :: l1, b :: l2, h1, h2, h => by
    have hab : a = b := by
      have m1 := (h a).1 (by simp)
      have m2 := (h b).2 (by simp)
      rcases List.mem_cons.1 m1 with m1 | m1
      · exact m1
      · rcases List.mem_cons.1 m2 with m2 | m2
        · exact m2.symm
        · have := h2.head a m1
          have := h1.head b m2
          omega
    subst hab
    rw [srt_ext h1.tail h2.tail (fun e => ?_)]
    constructor
    · intro he
      rcases List.mem_cons.1 ((h e).1 (List.mem_cons_of_mem _ he)) with c | c
      · subst c; have := h1.head e he; omega
      · exact c
    · intro he
      rcases List.mem_cons.1 ((h e).2 (List.mem_cons_of_mem _ he)) with c | c
      · subst c; have := h2.head e he; omega
      · exact c
theorem lf_ext {l1 l2 : List Ent} (h1 : Lf l1) (h2 : Lf l2) (h : ∀ k, k.ok = true → lfGet k l1 = lfGet k l2) : l1 = l2 := by
  refine srt_ext h1.srt h2.srt fun e => ?_
  have a := lfGet_iff h1.srt e.key e.val
  have b := lfGet_iff h2.srt e.key e.val
  constructor
  · intro he
    exact b.1 ((h _ (h1.ok e he).1) ▸ a.2 he)
  · intro he
    exact a.1 ((h _ (h2.ok e he).1).symm ▸ b.2 he)
/-! ### a key's entry by its place -/
theorem get_hit {l : List Ent} (h : Srt l) {k : Key} {i : Nat} (hi : i < l.length) (he : l[i].key = k) : lfGet k l = some l[i].val := by
  rw [lfGet_iff h]
  subst he
  exact List.getElem_mem hi
theorem at_hit {l : List Ent} (h : Srt l) {k : Key} {i : Nat} (hi : i < l.length) (he : l[i].key.rank = k.rank) : lfAt k l = i := by
  have h1 := (lfAt_iff (k := k) h i hi)
  have h3 := lfAt_le k l
  rcases Nat.lt_trichotomy (lfAt k l) i with c | c | c
  · have h4 := (lfAt_iff (k := k) h (lfAt k l) (by omega))
    have := h.lt (by omega) hi c
    omega
  · exact c
  · omega
theorem get_no {l : List Ent} (h : Srt l) {k : Key} (hn : ∀ (hi : lfAt k l < l.length), l[lfAt k l].key ≠ k) : lfGet k l = none := by
  cases hg : lfGet k l with
  | none => rfl
  | some v =>
    rw [lfGet_iff h] at hg
    obtain ⟨i, hi, he⟩ := List.mem_iff_getElem.1 hg
    have := at_hit h (k := k) hi (by rw [he])
    subst this
    exact absurd (by rw [he]) (hn hi)
theorem get_none {l : List Ent} {k : Key} (hn : ∀ i (hi : i < l.length), l[i].key ≠ k) : lfGet k l = none := by
  unfold lfGet
  rw [List.find?_eq_none.2]
  · rfl
  · intro e he
    obtain ⟨i, hi, rfl⟩ := List.mem_iff_getElem.1 he
    simpa using hn i hi
theorem flt_lo {k : Key} {l : List Ent} (h : Srt l) : l.filter (fun e => decide (e.key.rank < k.rank)) = l.take (lfAt k l) := by
  induction l with
  | nil => rfl
  | cons e l ih =>
    rw [lfAt_cons]
    by_cases c : e.key.rank < k.rank
    · rw [if_pos c, List.filter_cons_of_pos (by simpa using c), List.take_succ_cons, ih h.tail]
    · rw [if_neg c, List.filter_cons_of_neg (by simpa using c)]
      have hz : lfAt k l = 0 := lfAt_zero fun b hb => by have := h.head b hb; omega
      rw [ih h.tail, hz]
      rfl
theorem flt_all {k : Key} {l : List Ent} (h : ∀ b ∈ l, k.rank < b.key.rank) : l.filter (fun e => decide (k.rank < e.key.rank)) = l := by
  rw [List.filter_eq_self]
  intro b hb
  simpa using h b hb
theorem flt_hi {k : Key} {l : List Ent} (h : Srt l) : l.filter (fun e => decide (k.rank < e.key.rank)) = l.drop (lfAt k l + if (∃ hi : lfAt k l < l.length, l[lfAt k l].key.rank = k.rank) then 1 else 0) := by
  induction l with
  | nil => simp
  | cons e l ih =>
    by_cases c : e.key.rank < k.rank
    · have e1 : lfAt k (e :: l) = lfAt k l + 1 := by rw [lfAt_cons, if_pos c]
      have e2 : (∃ hi : lfAt k (e :: l) < (e :: l).length, (e :: l)[lfAt k (e :: l)].key.rank = k.rank) ↔ (∃ hi : lfAt k l < l.length, l[lfAt k l].key.rank = k.rank) := by
        simp only [e1]
        constructor
        · rintro ⟨h1, h2⟩; exact ⟨by simpa using h1, by simpa using h2⟩
        · rintro ⟨h1, h2⟩; exact ⟨by simpa using h1, by simpa using h2⟩
      have ih' := ih h.tail
      rw [List.filter_cons_of_neg (by simp; omega), ih']
      by_cases g : ∃ hi : lfAt k l < l.length, l[lfAt k l].key.rank = k.rank
      · rw [if_pos g, if_pos (e2.2 g), e1, show lfAt k l + 1 + 1 = (lfAt k l + 1) + 1 from rfl, List.drop_succ_cons]
      · rw [if_neg g, if_neg (fun x => g (e2.1 x)), e1, Nat.add_zero, Nat.add_zero, List.drop_succ_cons]
    · have hz : lfAt k l = 0 := lfAt_zero fun b hb => by have := h.head b hb; omega
      have e1 : lfAt k (e :: l) = 0 := by rw [lfAt_cons, if_neg c, hz]
      rw [e1]
      by_cases d : e.key.rank = k.rank
      · rw [if_pos ⟨by simp [e1], by simpa [e1] using d⟩, List.filter_cons_of_neg (by simp; omega), flt_all (fun b hb => by have := h.head b hb; omega)]
        rfl
      · rw [if_neg (fun ⟨_, h2⟩ => d (by simpa [e1] using h2)), flt_all (fun b hb => by
          rcases List.mem_cons.1 hb with rfl | hb
          · omega
          · have := h.head b hb; omega)]
        rfl
theorem set_hit {l : List Ent} (h : Srt l) {k : Key} (o : Option Vl) (hi : lfAt k l < l.length) (he : l[lfAt k l].key = k) : lfSet l k o = l.take (lfAt k l) ++ (newE k o ++ l.drop (lfAt k l + 1)) := by
  unfold lfSet
  rw [flt_lo h, flt_hi h, if_pos ⟨hi, by rw [he]⟩]
theorem set_no {l : List Ent} (h : Lf l) {k : Key} (hk : k.ok = true) (o : Option Vl) (hn : ∀ (hi : lfAt k l < l.length), l[lfAt k l].key ≠ k) : lfSet l k o = l.take (lfAt k l) ++ (newE k o ++ l.drop (lfAt k l)) := by
  unfold lfSet
  rw [flt_lo h.srt, flt_hi h.srt, if_neg]
  · rfl
  · rintro ⟨hi, h2⟩
    exact hn hi ((rank_inj (h.ok _ (List.getElem_mem hi)).1 hk).1 h2)
/-! ### of a leaf with a key set -/
theorem mem_set {l : List Ent} {k : Key} {o : Option Vl} {e : Ent} : e ∈ lfSet l k o ↔ (e ∈ l ∧ e.key.rank ≠ k.rank) ∨ (e.key = k ∧ o = some e.val) := by
  unfold lfSet
  simp only [List.mem_append, List.mem_filter, decide_eq_true_eq]
  have hn : e ∈ newE k o ↔ e.key = k ∧ o = some e.val := by
    unfold newE
    cases o with
    | none => simp
    | some v =>
      simp only [List.mem_singleton, Option.some.injEq]
      constructor
      · rintro rfl; exact ⟨rfl, rfl⟩
      · rintro ⟨h1, h2⟩; cases e; simp_all
  rw [hn]
  constructor
  · rintro (⟨h1, h2⟩ | h1 | ⟨h1, h2⟩)
    · exact .inl ⟨h1, by omega⟩
    · exact .inr h1
    · exact .inl ⟨h1, by omega⟩
  · rintro (⟨h1, h2⟩ | h1)
    · rcases Nat.lt_or_gt_of_ne h2 with c | c
      · exact .inl ⟨h1, c⟩
      · exact .inr (.inr ⟨h1, c⟩)
    · exact .inr (.inl h1)
theorem srt_set {l : List Ent} (h : Srt l) (k : Key) (o : Option Vl) : Srt (lfSet l k o) := by
  unfold Srt lfSet
  have hn : ∀ e ∈ newE k o, e.key = k := fun e he => by
    unfold newE at he
    cases o with
    | none => cases he
    | some v => simp only [List.mem_singleton] at he; subst he; rfl
  rw [List.pairwise_append, List.pairwise_append]
  refine ⟨h.sublist List.filter_sublist, ⟨?_, h.sublist List.filter_sublist, fun a ha b hb => ?_⟩, fun a ha b hb => ?_⟩
  · unfold newE
    cases o with
    | none => exact List.Pairwise.nil
    | some v => exact List.pairwise_singleton ..
  · rw [hn a ha]
    simpa using (List.mem_filter.1 hb).2
  · have h1 : a.key.rank < k.rank := by simpa using (List.mem_filter.1 ha).2
    rcases List.mem_append.1 hb with hb | hb
    · rw [hn b hb]; exact h1
    · have h2 : k.rank < b.key.rank := by simpa using (List.mem_filter.1 hb).2
      omega
def OOk (o : Option Vl) : Prop := ∀ v, o = some v → v.ok = true
theorem lf_set {l : List Ent} (h : Lf l) {k : Key} (hk : k.ok = true) {o : Option Vl} (ho : OOk o) : Lf (lfSet l k o) := by
  refine ⟨fun e he => ?_, srt_set h.srt k o⟩
  rcases mem_set.1 he with ⟨h1, _⟩ | ⟨h1, h2⟩
  · exact h.ok e h1
  · exact ⟨by rw [h1]; exact hk, ho _ h2⟩
theorem get_set {l : List Ent} (h : Lf l) {k : Key} (hk : k.ok = true) (o : Option Vl) {x : Key} (hx : x.ok = true) : lfGet x (lfSet l k o) = if x = k then o else lfGet x l := by
  apply Option.ext
  intro v
  rw [lfGet_iff (srt_set h.srt k o), mem_set]
  by_cases c : x = k
  · rw [if_pos c]; subst c
    simp
  · rw [if_neg c, lfGet_iff h.srt]
    have : x.rank ≠ k.rank := fun e => c ((rank_inj hx hk).1 e)
    simp [c, this]
theorem get_ok {l : List Ent} (h : Lf l) (k : Key) : OOk (lfGet k l) := fun v hv => (h.ok _ ((lfGet_iff h.srt k v).1 hv)).2
theorem vplus_ok (v : Vl) (n : BitVec 64) : (vplus v n).ok = true := fromN_ok _
theorem ap_ok {m : Msg} (hm : m.ok = true) {o : Option Vl} (ho : OOk o) : OOk (ap m o) := by
  obtain ⟨h1, h2, h3, h4, _⟩ := Msg.spec hm
  unfold ap
  intro v hv
  split at hv
  · injection hv with hv; subst hv; exact h4
  · split at hv
    · cases hv
    · split at hv
      · injection hv with hv; subst hv; exact vplus_ok _ _
      · injection hv with hv; subst hv; exact fromN_ok _
theorem lf_put {l : List Ent} (h : Lf l) {m : Msg} (hm : m.ok = true) : Lf (lfPut l m) := lf_set h (Msg.spec hm).2.2.1 (ap_ok hm (get_ok h _))
theorem get_put {l : List Ent} (h : Lf l) {m : Msg} (hm : m.ok = true) {x : Key} (hx : x.ok = true) : lfGet x (lfPut l m) = if x = m.key then ap m (lfGet m.key l) else lfGet x l := get_set h (Msg.spec hm).2.2.1 _ hx
theorem lf_all {ms : List Msg} : ∀ {l : List Ent}, Lf l → (∀ m ∈ ms, m.ok = true) → Lf (lfAll l ms) := by
  induction ms with
  | nil => intro l h _; exact h
  | cons m ms ih => intro l h hm; exact ih (lf_put h (hm m (by simp))) (fun x hx => hm x (List.mem_cons_of_mem _ hx))
theorem lf_nil : Lf [] := ⟨(fun e h => by cases h), List.Pairwise.nil⟩
theorem set_len {l : List Ent} (k : Key) (o : Option Vl) : (lfSet l k o).length ≤ l.length + 1 := by
  unfold lfSet
  have h1 : (newE k o).length ≤ 1 := by unfold newE; cases o <;> simp
  have h2 : (l.filter (fun e => decide (e.key.rank < k.rank))).length + (l.filter (fun e => decide (k.rank < e.key.rank))).length ≤ l.length := by
    induction l with
    | nil => simp
    | cons e l ih =>
      simp only [List.filter_cons]
      split <;> split <;> simp_all <;> omega
  simp only [List.length_append]
  omega
theorem put_len (l : List Ent) (m : Msg) : (lfPut l m).length ≤ l.length + 1 := set_len _ _
theorem all_len : ∀ (ms : List Msg) (l : List Ent), (lfAll l ms).length ≤ l.length + ms.length
  | [], l => by simp [lfAll]
  | m :: ms, l => by
    have h1 := all_len ms (lfPut l m)
    have h2 := put_len l m
    simp only [lfAll, List.foldl_cons, List.length_cons] at h1 ⊢
    omega
end Go.Proofs.Ytkpjkfjlpiidbaa

namespace Go.Proofs.Ytkpjkfjlpiidbaa
open Go Go.RowKit
set_option linter.unusedVariables false
set_option linter.unusedSimpArgs false
set_option maxRecDepth 100000

def lfHit (k : Key) (l : List Ent) : Bool := match l[lfAt k l]? with
  | some e => decide (e.key = k)
  | none => false
theorem lfHit_at {k : Key} {l : List Ent} (hi : lfAt k l < l.length) : lfHit k l = decide (l[lfAt k l].key = k) := by
  unfold lfHit; rw [List.getElem?_eq_getElem hi]
theorem lfHit_end {k : Key} {l : List Ent} (hi : ¬ lfAt k l < l.length) : lfHit k l = false := by
  unfold lfHit; rw [List.getElem?_eq_none (by omega)]
def opL (o : Option Vl) : List AV := [(opA o).1.av, boolA (opA o).2]
attribute [local irreducible] OpOK AWops AW CondB Go2 AFn thenA inBlockA noGotoA orderOk wantedA
set_option maxRecDepth 100000 in
set_option maxHeartbeats 4000000 in
theorem a_ref07find (l : List Ent) (k : Key) (h : Srt l) (hl : l.length ≤ 1000000000) : AFn Try.prog 53 [entsA l, k.av] (.tup [(opA (lfGet k l)).1.av, boolA (opA (lfGet k l)).2]) := by
  refine AFn_intro Try.func53 rfl Try.ntmps53 rfl (by simp) [_, _] rfl fun E hE => ?_
  refine wL ?_
  refine AW_loopI (fun j : Nat => ⟨[(0, entsA l), (3, .ptr 3 0 []), (4, .ptr 4 0 []), (6, intA j)], [(3, .var k.av), (4, .var Vl.zero.av)]⟩) (fun j => j ≤ l.length ∧ ∀ i (hi : i < l.length), i < j → l[i].key ≠ k) (fun j => l.length - j) 0 ⟨Nat.zero_le _, fun i _ h => by omega⟩ (by (refine Go2.sub ⟨?_, ?_, ?_⟩ <;> repeat' (first | exact True.intro | rfl | apply And.intro))) (fun j hj => ?_)
  obtain ⟨j1, j2⟩ := hj
  by_cases c : j < l.length
  · by_cases q : l[j].key = k
    · rw [get_hit h c q]
      refine wL ?_
      exact fin ⟨res_var rfl rfl rfl rfl, res_of rfl rfl rfl, trivial⟩
    · refine wL ?_
      refine ⟨j + 1, ⟨c, fun i hi hij => ?_⟩, by omega, ?_⟩
      · by_cases e : i = j
        · subst e; exact q
        · exact j2 i hi (by omega)
      · (refine Go2.sub ⟨?_, ?_, ?_⟩ <;> repeat' (first | exact True.intro | rfl | apply And.intro))
  · rw [get_none (fun i hi => j2 i hi (by omega))]
    refine wL ?_
    exact fin ⟨res_var rfl rfl rfl rfl, res_of rfl rfl rfl, trivial⟩
end Go.Proofs.Ytkpjkfjlpiidbaa

namespace Go.Proofs.Ytkpjkfjlpiidbaa
open Go Go.RowKit
set_option linter.unusedVariables false
set_option linter.unusedSimpArgs false
set_option maxRecDepth 100000

/-- what the document's loop has put out behind j entries -/
def outP (l : List Ent) (p q : Nat) (new : List Ent) (j : Nat) : List Ent := l.take (min j p) ++ ((if p < j then new else []) ++ (l.take j).drop q)
theorem outP_zero (l : List Ent) (p q : Nat) (new : List Ent) : outP l p q new 0 = [] := by simp [outP]
theorem outP_lo {l : List Ent} {p q : Nat} {new : List Ent} {j : Nat} (hp : p ≤ q) (hj : j < p) (hl : j < l.length) : outP l p q new (j + 1) = outP l p q new j ++ [l[j]] := by
  unfold outP
  rw [if_neg (by omega), if_neg (by omega), Nat.min_eq_left (by omega), Nat.min_eq_left (by omega), List.drop_eq_nil_of_le (by simp; omega), List.drop_eq_nil_of_le (by simp; omega)]
  simp only [List.append_nil]
  exact (List.take_append_getElem hl).symm
theorem drop_take_snoc {l : List Ent} {q j : Nat} (hq : q ≤ j) (hl : j < l.length) : (l.take (j + 1)).drop q = (l.take j).drop q ++ [l[j]] := by
  rw [← List.take_append_getElem hl, List.drop_append_of_le_length (by simp; omega)]
theorem outP_no {l : List Ent} {p : Nat} {new : List Ent} (hl : p < l.length) : outP l p p new (p + 1) = (outP l p p new p ++ new) ++ [l[p]] := by
  unfold outP
  rw [if_pos (by omega), if_neg (by omega), Nat.min_eq_right (by omega), Nat.min_self, drop_take_snoc (Nat.le_refl _) hl, List.drop_eq_nil_of_le (by simp; omega)]
  simp
theorem outP_hit {l : List Ent} {p : Nat} {new : List Ent} (hl : p < l.length) : outP l p (p + 1) new (p + 1) = outP l p (p + 1) new p ++ new := by
  unfold outP
  rw [if_pos (by omega), if_neg (by omega), Nat.min_eq_right (by omega), Nat.min_self, List.drop_eq_nil_of_le (by simp; omega), List.drop_eq_nil_of_le (by simp; omega)]
  simp
theorem outP_hi {l : List Ent} {p q : Nat} {new : List Ent} {j : Nat} (hq : q ≤ j) (hj : p < j) (hl : j < l.length) : outP l p q new (j + 1) = outP l p q new j ++ [l[j]] := by
  unfold outP
  rw [if_pos (by omega), if_pos (by omega), Nat.min_eq_right (by omega), Nat.min_eq_right (by omega), drop_take_snoc hq hl]
  simp
theorem outP_end {l : List Ent} {p q : Nat} {new : List Ent} (hp : p < l.length) : outP l p q new l.length = l.take p ++ (new ++ l.drop q) := by
  unfold outP
  rw [if_pos hp, Nat.min_eq_right (by omega), List.take_length]
theorem outP_end' {l : List Ent} {p q : Nat} {new : List Ent} (hp : p = l.length) (hq : p ≤ q) : outP l p q new l.length ++ new = l.take p ++ (new ++ l.drop q) := by
  unfold outP
  rw [if_neg (by omega), Nat.min_eq_left (by omega), List.take_length, List.drop_eq_nil_of_le (by omega)]
  subst hp
  simp
theorem outP_len {l : List Ent} {p q : Nat} {new : List Ent} (j : Nat) (hn : new.length ≤ 1) : (outP l p q new j).length ≤ 2 * l.length + 1 := by
  unfold outP
  simp only [List.length_append, List.length_take, List.length_drop]
  split <;> simp <;> omega
attribute [local irreducible] OpOK AWops AW CondB Go2 AFn thenA inBlockA noGotoA orderOk wantedA
set_option maxRecDepth 100000 in
set_option maxHeartbeats 8000000 in
theorem a_ref07put (l : List Ent) (m : Msg) (h : Lf l) (hm : m.key.ok = true) (hl : l.length ≤ 1000000000) : AFn Try.prog 30 [entsA l, m.av] (entsA (lfPut l m)) := by
  refine AFn_intro Try.func30 rfl Try.ntmps30 rfl (by simp) [_] rfl fun E hE => ?_
  have c1 := a_ref07find l m.key h.srt hl
  have c2 := a_refapply (opA (lfGet m.key l)).1 (opA (lfGet m.key l)).2 m
  rw [applyM_ap] at c2
  unfold lfPut
  have d1 := acall Try.func53 (c1) (by decide +kernel) (by decide +kernel)
  have d2 := acall Try.func54 (c2) (by decide +kernel) (by decide +kernel)
  generalize ap m (lfGet m.key l) = r at d2 ⊢
  have hnt : (!true) = false := rfl
  have hnf : (!false) = true := rfl
  have hple := lfAt_le m.key l
  have hnl : (newE m.key r).length ≤ 1 := by unfold newE; cases r <;> simp
  obtain ⟨q, hq, hset, hcase⟩ : ∃ q, lfAt m.key l ≤ q ∧ lfSet l m.key r = l.take (lfAt m.key l) ++ (newE m.key r ++ l.drop q) ∧ ∀ (hi : lfAt m.key l < l.length), (q = lfAt m.key l + 1 ∧ refCmp l[lfAt m.key l].key m.key = 0) ∨ (q = lfAt m.key l ∧ 0 < refCmp l[lfAt m.key l].key m.key) := by
    by_cases e : ∃ hi : lfAt m.key l < l.length, l[lfAt m.key l].key = m.key
    · obtain ⟨hi, e⟩ := e
      exact ⟨_, Nat.le_succ _, set_hit h.srt r hi e, fun _ => .inl ⟨rfl, by rw [refCmp_rank (h.ok _ (List.getElem_mem hi)).1 hm, e, sgn_same]⟩⟩
    · refine ⟨_, Nat.le_refl _, set_no h hm r (fun hi e' => e ⟨hi, e'⟩), fun hi => .inr ⟨rfl, ?_⟩⟩
      have ho := (h.ok _ (List.getElem_mem hi)).1
      rw [refCmp_rank ho hm, sgn_pos]
      have h1 := (lfAt_iff (k := m.key) h.srt _ hi)
      have h2 : l[lfAt m.key l].key.rank ≠ m.key.rank := fun e' => e ⟨hi, (rank_inj ho hm).1 e'⟩
      omega
  rw [hset]
  have hlo : ∀ j (hj : j < l.length), j < lfAt m.key l → refCmp l[j].key m.key < 0 := fun j hj c => by
    rw [refCmp_rank (h.ok _ (List.getElem_mem hj)).1 hm, sgn_neg]; exact (lfAt_iff h.srt j hj).1 c
  have hhi : ∀ j (hj : j < l.length), lfAt m.key l < j → 0 < refCmp l[j].key m.key := fun j hj c => by
    rw [refCmp_rank (h.ok _ (List.getElem_mem hj)).1 hm, sgn_pos]
    have h1 := h.srt.lt (by omega) hj c
    have h2 := lfAt_iff (k := m.key) h.srt (lfAt m.key l) (by omega)
    omega
  generalize lfAt m.key l = p at hq hcase hlo hhi hple ⊢
  refine wB ?_
  refine AW_go (Go2.token 9 9 25 45 rfl rfl) ?_
  refine AW_loopI (fun j : Nat => ⟨[(0, entsA l), (3, .ptr 3 0 []), (7, .ptr 7 0 []), (8, boolA (opA r).2), (9, .sl (some 9) 26 ((outP l p q (newE m.key r) j).map Ent.av)), (10, boolA (decide (p < j))), (11, intA j)], [(3, .var m.av), (7, .var (opA r).1.av), (9, .tail 45 26 (outP l p q (newE m.key r) j).length)]⟩) (fun j => j ≤ l.length) (fun j => l.length - j) 0 (Nat.zero_le _) (by rw [outP_zero, decide_eq_false (Nat.not_lt_zero p)]; (refine Go2.sub ⟨?_, ?_, ?_⟩ <;> repeat' (first | exact True.intro | rfl | apply And.intro))) (fun j hj => ?_)
  have hol := outP_len (l := l) (p := p) (q := q) (new := newE m.key r) j hnl
  by_cases c : j < l.length
  · have d3 := acall Try.func55 (a_refcmp l[j].key m.key) (by decide +kernel) (by decide +kernel)
    rcases Nat.lt_trichotomy j p with c1 | c1 | c1
    · have hc := hlo j c c1
      have hs := outP_lo (new := newE m.key r) hq c1 c
      refine wB ?_
      refine ⟨j + 1, c, by omega, ?_⟩
      rw [hs, show decide (p < j + 1) = decide (p < j) from by rw [decide_eq_false (by omega), decide_eq_false (by omega)]]
      (refine Go2.sub ⟨?_, ?_, ?_⟩ <;> repeat' (first | exact True.intro | rfl | apply And.intro))
    · subst c1
      have hb : (!decide (j < j)) = true := by simp
      rcases hcase c with ⟨hqe, hc⟩ | ⟨hqe, hc⟩
      · subst hqe
        have hs := outP_hit (new := newE m.key r) c
        cases r with
        | none =>
          refine wB ?_
          refine ⟨j + 1, c, by omega, ?_⟩
          rw [hs, decide_eq_true (Nat.lt_succ_self j)]
          simp only [newE, List.append_nil]
          (refine Go2.sub ⟨?_, ?_, ?_⟩ <;> repeat' (first | exact True.intro | rfl | apply And.intro))
        | some v =>
          refine wB ?_
          refine ⟨j + 1, c, by omega, ?_⟩
          rw [hs, decide_eq_true (Nat.lt_succ_self j)]
          (refine Go2.sub ⟨?_, ?_, ?_⟩ <;> repeat' (first | exact True.intro | rfl | apply And.intro))
      · obtain rfl : j = q := hqe.symm
        have hs := outP_no (new := newE m.key r) c
        cases r with
        | none =>
          refine wB ?_
          refine ⟨j + 1, c, by omega, ?_⟩
          rw [hs, decide_eq_true (Nat.lt_succ_self j)]
          simp only [newE, List.append_nil]
          (refine Go2.sub ⟨?_, ?_, ?_⟩ <;> repeat' (first | exact True.intro | rfl | apply And.intro))
        | some v =>
          have hn1 : (outP l j j (newE m.key (some v)) j ++ ([⟨m.key, v⟩] : List Ent)).length ≤ 2 * l.length + 2 := by simp; omega
          refine wB ?_
          refine ⟨j + 1, c, by omega, ?_⟩
          rw [hs, decide_eq_true (Nat.lt_succ_self j)]
          (refine Go2.sub ⟨?_, ?_, ?_⟩ <;> repeat' (first | exact True.intro | rfl | apply And.intro))
    · have hc := hhi j c c1
      have hb : (!decide (p < j)) = false := by simp; omega
      have hqj : q ≤ j := by rcases hcase (by omega) with ⟨e, _⟩ | ⟨e, _⟩ <;> omega
      have hs := outP_hi (new := newE m.key r) hqj c1 c
      refine wB ?_
      refine ⟨j + 1, c, by omega, ?_⟩
      rw [hs, show decide (p < j + 1) = decide (p < j) from by rw [decide_eq_true (by omega), decide_eq_true (by omega)]]
      (refine Go2.sub ⟨?_, ?_, ?_⟩ <;> repeat' (first | exact True.intro | rfl | apply And.intro))
  · obtain rfl : j = l.length := by omega
    by_cases e : p < l.length
    · have hb : (!decide (p < l.length)) = false := by simp; omega
      rw [← outP_end e]
      refine wB ?_
      exact fin ⟨res_sl rfl, trivial⟩
    · have hb : (!decide (p < l.length)) = true := by simp; omega
      have hs := outP_end' (new := newE m.key r) (show p = l.length by omega) hq
      cases r with
      | none =>
        rw [← hs]
        simp only [newE, List.append_nil]
        refine wB ?_
        exact fin ⟨res_sl rfl, trivial⟩
      | some v =>
        rw [← hs]
        refine wB ?_
        exact fin ⟨res_sl rfl, trivial⟩
end Go.Proofs.Ytkpjkfjlpiidbaa

namespace Go.Proofs.Ytkpjkfjlpiidbaa
open Go Go.RowKit
set_option linter.unusedVariables false
set_option linter.unusedSimpArgs false
set_option maxRecDepth 100000

section
variable {E : Env} {nt : Nat} {ops : Array Oper} {T : Nat → Option AV} {H : Hp} {d : Option Nat} {ty : TypeId} {pos : String} {af : Array Edge} {gd : Option (Nat × Bool)}
theorem o_make0 {α : Type} (f : α → AV) {t e : TypeId} {es bytes : Nat} {ea : Bool} {x y : Operand} {k k' : IntKind} {n : Nat} {g : Nat} (hd : dOk nt (some g) = true) (hs : tabT.ti t = some (.sl e (es + 1) bytes ea)) (hx : evalO T x = some (.v (.int k 0))) (hy : evalO T y = some (.v (.int k' (n : Nat)))) (hg : H g = none) (hb : bytes * n ≤ 140737488355328) (hn : n ≤ 9223372036854775807) :
    OpOK Try.prog E nt ops ⟨some g, .makeSlice t x y, ty, pos, af, gd⟩ T H [] ⟨.sl (some g) (es + 1) (([] : List α).map f), [(g, .tail e (es + 1) ([] : List α).length)]⟩ := ok_make0 tabT hd hs hx hy hg hb hn
end
attribute [local irreducible] OpOK AWops AW CondB Go2 AFn thenA inBlockA noGotoA orderOk wantedA
end Go.Proofs.Ytkpjkfjlpiidbaa

namespace Go.Proofs.Ytkpjkfjlpiidbaa
open Go Go.RowKit
set_option linter.unusedVariables false
set_option linter.unusedSimpArgs false
set_option maxRecDepth 100000

theorem lfAll_snoc (l : List Ent) (ms : List Msg) (j : Nat) (h : j < ms.length) : lfAll l (ms.take (j + 1)) = lfPut (lfAll l (ms.take j)) ms[j] := by
  unfold lfAll
  rw [← List.take_append_getElem h, List.foldl_append]
  rfl
def EBd (l : List Ent) : Prop := ∀ e ∈ l, (0 ≤ e.key.n ∧ e.key.n ≤ 8) ∧ (0 ≤ e.val.n ∧ e.val.n ≤ 16)
theorem EOk.bd {l : List Ent} (h : EOk l) : EBd l := fun e he => ⟨Key.n_le (h e he).1, Vl.n_le (h e he).2⟩
theorem eSum_nil : eSum [] = 0 := rfl
theorem eSum_append (a b : List Ent) : eSum (a ++ b) = eSum a + eSum b := by simp [eSum]
theorem eSum_snoc (l : List Ent) (j : Nat) (h : j < l.length) : eSum (l.take (j + 1)) = eSum (l.take j) + l[j].size := by
  rw [← List.take_append_getElem h, eSum_append]
  simp [eSum]
theorem EBd.sum : ∀ {l : List Ent}, EBd l → 2 * (l.length : Int) ≤ eSum l ∧ eSum l ≤ 26 * (l.length : Int)
  | [], _ => by simp [eSum]
  | e :: l, h => by
    have h1 := EBd.sum (l := l) (fun x hx => h x (List.mem_cons_of_mem _ hx))
    have h2 := h e (by simp)
    have h3 : eSum (e :: l) = e.size + eSum l := by simp [eSum]
    unfold Ent.size at h3
    rw [h3]
    simp only [List.length_cons]
    omega
theorem EBd.take {l : List Ent} (h : EBd l) (j : Nat) : EBd (l.take j) := fun e he => h e (List.mem_of_mem_take he)
theorem EBd.drop {l : List Ent} (h : EBd l) (j : Nat) : EBd (l.drop j) := fun e he => h e (List.mem_of_mem_drop he)
/-- entries of a leaf, by neighbours -/
def EntsOk (cmp : Key → Key → Int) (l : List Ent) : Prop := ∀ j (h : j < l.length), l[j].key.ok = true ∧ l[j].val.ok = true ∧ ∀ i (hi : i + 1 = j), cmp (l[i]'(by omega)).key l[j].key < 0
noncomputable def entsOkB (cmp : Key → Key → Int) (l : List Ent) : Bool := @decide (EntsOk cmp l) (Classical.propDecidable _)
theorem entsOkB_true {cmp : Key → Key → Int} {l : List Ent} (h : EntsOk cmp l) : entsOkB cmp l = true := by unfold entsOkB; exact @decide_eq_true _ (Classical.propDecidable _) h
theorem entsOkB_false {cmp : Key → Key → Int} {l : List Ent} (h : ¬ EntsOk cmp l) : entsOkB cmp l = false := by unfold entsOkB; exact @decide_eq_false _ (Classical.propDecidable _) h
theorem entsOk_ref (l : List Ent) : EntsOk refCmp l ↔ EntsOk keyCmp l := by
  constructor <;>
  · intro h j hj
    obtain ⟨h1, h2, h3⟩ := h j hj
    refine ⟨h1, h2, fun i hi => ?_⟩
    have := h3 i hi
    first
      | rwa [refCmp_key (h i (by omega)).1 h1] at this
      | rwa [refCmp_key (h i (by omega)).1 h1]
theorem entsOkB_ref (l : List Ent) : entsOkB refCmp l = entsOkB keyCmp l := by
  by_cases c : EntsOk keyCmp l
  · rw [entsOkB_true c, entsOkB_true ((entsOk_ref l).2 c)]
  · rw [entsOkB_false c, entsOkB_false (fun h => c ((entsOk_ref l).1 h))]
theorem Lf.ents {l : List Ent} (h : Lf l) : EntsOk keyCmp l := fun j hj => ⟨(h.ok _ (List.getElem_mem hj)).1, (h.ok _ (List.getElem_mem hj)).2, fun i hi => by
  rw [keyCmp_rank, sgn_neg]; exact h.srt.lt (by omega) hj (by omega)⟩
theorem EntsOk.eok {cmp : Key → Key → Int} {l : List Ent} (h : EntsOk cmp l) : EOk l := fun e he => by
  obtain ⟨j, hj, rfl⟩ := List.mem_iff_getElem.1 he
  exact ⟨(h j hj).1, (h j hj).2.1⟩
attribute [local irreducible] OpOK AWops AW CondB Go2 AFn thenA inBlockA noGotoA orderOk wantedA
set_option maxRecDepth 100000 in
set_option maxHeartbeats 8000000 in
theorem a_leafsize (e : Ent) (h : (0 ≤ e.key.n ∧ e.key.n ≤ 8) ∧ (0 ≤ e.val.n ∧ e.val.n ≤ 16)) : AFn Try.prog 108 [e.av] (intA e.size) := by
  refine AFn_intro Try.func108 rfl Try.ntmps108 rfl (by simp) [_] rfl fun E hE => ?_
  unfold Ent.size
  refine wB ?_
  exact fin ⟨res_of rfl rfl rfl, trivial⟩
set_option maxRecDepth 100000 in
set_option maxHeartbeats 8000000 in
theorem a_leafbytes (l : List Ent) (h : EBd l) (hl : l.length ≤ 100000000) : AFn Try.prog 106 [entsA l] (intA (eSum l)) := by
  refine AFn_intro Try.func106 rfl Try.ntmps106 rfl (by simp) [_] rfl fun E hE => ?_
  refine wB ?_
  refine AW_loopI (fun j : Nat => ⟨[(6, entsA l), (7, intA l.length), (8, intA j), (3, intA (eSum (l.take j)))], []⟩) (fun j => j ≤ l.length) (fun j => l.length - j) 0 (Nat.zero_le _) (by (refine Go2.sub ⟨?_, ?_, ?_⟩ <;> repeat' (first | exact True.intro | rfl | apply And.intro))) (fun j hj => ?_)
  have hb := (h.take j).sum
  rw [List.length_take] at hb
  by_cases c : j < l.length
  · have hs := eSum_snoc l j c
    have he := h l[j] (List.getElem_mem c)
    have hz : l[j].size = 2 + l[j].key.n + l[j].val.n := rfl
    have d1 := acall Try.func108 (a_leafsize l[j] he) (by decide +kernel) (by decide +kernel)
    refine wB ?_
    refine ⟨j + 1, c, by omega, ?_⟩
    rw [hs]
    (refine Go2.sub ⟨?_, ?_, ?_⟩ <;> repeat' (first | exact True.intro | rfl | apply And.intro))
  · obtain rfl : j = l.length := by omega
    rw [List.take_length]
    refine wB ?_
    exact fin ⟨res_of rfl rfl rfl, trivial⟩
set_option maxRecDepth 100000 in
set_option maxHeartbeats 8000000 in
theorem a_ref07bytes (l : List Ent) (h : EBd l) (hl : l.length ≤ 100000000) : AFn Try.prog 40 [entsA l] (intA (eSum l)) := by
  refine AFn_intro Try.func40 rfl Try.ntmps40 rfl (by simp) [_] rfl fun E hE => ?_
  refine wB ?_
  refine AW_loopI (fun j : Nat => ⟨[(0, entsA l), (3, intA (eSum (l.take j))), (4, intA j)], []⟩) (fun j => j ≤ l.length) (fun j => l.length - j) 0 (Nat.zero_le _) (by (refine Go2.sub ⟨?_, ?_, ?_⟩ <;> repeat' (first | exact True.intro | rfl | apply And.intro))) (fun j hj => ?_)
  have hb := (h.take j).sum
  rw [List.length_take] at hb
  by_cases c : j < l.length
  · have hs : eSum (l.take (j + 1)) = eSum (l.take j) + 2 + l[j].key.n + l[j].val.n := by
      rw [eSum_snoc l j c]; unfold Ent.size; omega
    have he := h l[j] (List.getElem_mem c)
    refine wB ?_
    refine ⟨j + 1, c, by omega, ?_⟩
    rw [hs]
    (refine Go2.sub ⟨?_, ?_, ?_⟩ <;> repeat' (first | exact True.intro | rfl | apply And.intro))
  · obtain rfl : j = l.length := by omega
    rw [List.take_length]
    refine wB ?_
    exact fin ⟨res_of rfl rfl rfl, trivial⟩
set_option maxRecDepth 100000 in
set_option maxHeartbeats 8000000 in
theorem a_ref07same (l : List Ent) (hl : l.length ≤ 100000000) : AFn Try.prog 32 [entsA l, entsA l] (boolA true) := by
  refine AFn_intro Try.func32 rfl Try.ntmps32 rfl (by simp) [_] rfl fun E hE => ?_
  refine wL ?_
  refine AW_loopI (fun j : Nat => ⟨[(0, entsA l), (1, entsA l), (5, intA j)], []⟩) (fun j => j ≤ l.length) (fun j => l.length - j) 0 (Nat.zero_le _) (by (refine Go2.sub ⟨?_, ?_, ?_⟩ <;> repeat' (first | exact True.intro | rfl | apply And.intro))) (fun j hj => ?_)
  by_cases c : j < l.length
  · have hs : ¬ l[j] ≠ l[j] := fun h => h rfl
    refine wL ?_
    refine ⟨j + 1, c, by omega, ?_⟩
    (refine Go2.sub ⟨?_, ?_, ?_⟩ <;> repeat' (first | exact True.intro | rfl | apply And.intro))
  · refine wL ?_
    exact fin ⟨res_of rfl rfl rfl, trivial⟩
end Go.Proofs.Ytkpjkfjlpiidbaa

namespace Go.Proofs.Ytkpjkfjlpiidbaa
open Go Go.RowKit
set_option linter.unusedVariables false
set_option linter.unusedSimpArgs false
set_option maxRecDepth 100000

theorem entsOk_nok {cmp : Key → Key → Int} {l : List Ent} {j : Nat} (h : j < l.length) (e : l[j].key.ok = false) : ¬ EntsOk cmp l := fun k => by
  have := (k j h).1
  rw [e] at this; cases this
theorem entsOk_nov {cmp : Key → Key → Int} {l : List Ent} {j : Nat} (h : j < l.length) (e : l[j].val.ok = false) : ¬ EntsOk cmp l := fun k => by
  have := (k j h).2.1
  rw [e] at this; cases this
theorem entsOk_noc {cmp : Key → Key → Int} {l : List Ent} {i : Nat} (h : i + 1 < l.length) (e : 0 ≤ cmp l[i].key l[i + 1].key) : ¬ EntsOk cmp l := fun k => by
  have := (k (i + 1) h).2.2 i rfl
  omega
attribute [local irreducible] OpOK AWops AW CondB Go2 AFn thenA inBlockA noGotoA orderOk wantedA
set_option maxRecDepth 100000 in
set_option maxHeartbeats 8000000 in
theorem a_leafcheck (l : List Ent) (hl : l.length ≤ 100000000) : AFn Try.prog 107 [entsA l] (boolA (entsOkB keyCmp l)) := by
  refine AFn_intro Try.func107 rfl Try.ntmps107 rfl (by simp) [_] rfl fun E hE => ?_
  have k' : (!true) = false := rfl
  have k'' : (!false) = true := rfl
  refine wL ?_
  refine AW_loopI (fun j : Nat => ⟨[(0, entsA l), (5, entsA l), (6, intA l.length), (7, intA j)], []⟩) (fun j => j ≤ l.length ∧ ∀ i (hi : i < l.length), i < j → l[i].key.ok = true ∧ l[i].val.ok = true ∧ ∀ a (ha : a + 1 = i), keyCmp (l[a]'(by omega)).key l[i].key < 0) (fun j => l.length - j) 0 ⟨Nat.zero_le _, fun i _ h => by omega⟩ (by (refine Go2.sub ⟨?_, ?_, ?_⟩ <;> repeat' (first | exact True.intro | rfl | apply And.intro))) (fun j hj => ?_)
  obtain ⟨j1, j2⟩ := hj
  by_cases c : j < l.length
  · have d1 := a_keycheck l[j].key
    have d2 := a_vlcheck l[j].val
    cases hk : l[j].key.ok with
    | false =>
      rw [hk] at d1
      rw [entsOkB_false (entsOk_nok c hk)]
      have f1 := acall Try.func75 (d1) (by decide +kernel) (by decide +kernel)
      refine wL ?_
      exact fin ⟨res_of rfl rfl rfl, trivial⟩
    | true =>
      rw [hk] at d1
      cases hv : l[j].val.ok with
      | false =>
        rw [hv] at d2
        rw [entsOkB_false (entsOk_nov c hv)]
        have f1 := acall Try.func75 (d1) (by decide +kernel) (by decide +kernel)
        have f2 := acall Try.func76 (d2) (by decide +kernel) (by decide +kernel)
        refine wL ?_
        exact fin ⟨res_of rfl rfl rfl, trivial⟩
      | true =>
        rw [hv] at d2
        have f1 := acall Try.func75 (d1) (by decide +kernel) (by decide +kernel)
        have f2 := acall Try.func76 (d2) (by decide +kernel) (by decide +kernel)
        cases j with
        | zero =>
          refine wL ?_
          refine ⟨1, ⟨c, fun i hi hij => ?_⟩, by omega, ?_⟩
          · obtain rfl : i = 0 := by omega
            exact ⟨hk, hv, fun a ha => by omega⟩
          · (refine Go2.sub ⟨?_, ?_, ?_⟩ <;> repeat' (first | exact True.intro | rfl | apply And.intro))
        | succ m =>
          have f3 := acall Try.func72 (a_keycmp l[m].key l[m + 1].key) (by decide +kernel) (by decide +kernel)
          by_cases q : 0 ≤ keyCmp l[m].key l[m + 1].key
          · rw [entsOkB_false (entsOk_noc c q)]
            refine wL ?_
            exact fin ⟨res_of rfl rfl rfl, trivial⟩
          · refine wL ?_
            refine ⟨m + 1 + 1, ⟨c, fun i hi hij => ?_⟩, by omega, ?_⟩
            · by_cases e : i = m + 1
              · subst e
                exact ⟨hk, hv, fun a ha => by
                  have e : a = m := by omega
                  subst e; exact Int.not_le.1 q⟩
              · exact j2 i hi (by omega)
            · (refine Go2.sub ⟨?_, ?_, ?_⟩ <;> repeat' (first | exact True.intro | rfl | apply And.intro))
  · rw [entsOkB_true (fun i hi => j2 i hi (by omega))]
    refine wL ?_
    exact fin ⟨res_of rfl rfl rfl, trivial⟩
set_option maxRecDepth 100000 in
set_option maxHeartbeats 8000000 in
theorem a_ref07check (l : List Ent) (hl : l.length ≤ 100000000) : AFn Try.prog 48 [entsA l] (boolA (entsOkB refCmp l)) := by
  refine AFn_intro Try.func48 rfl Try.ntmps48 rfl (by simp) [_] rfl fun E hE => ?_
  have k' : (!true) = false := rfl
  have k'' : (!false) = true := rfl
  refine wL ?_
  refine AW_loopI (fun j : Nat => ⟨[(0, entsA l), (3, intA j)], []⟩) (fun j => j ≤ l.length ∧ ∀ i (hi : i < l.length), i < j → l[i].key.ok = true ∧ l[i].val.ok = true ∧ ∀ a (ha : a + 1 = i), refCmp (l[a]'(by omega)).key l[i].key < 0) (fun j => l.length - j) 0 ⟨Nat.zero_le _, fun i _ h => by omega⟩ (by (refine Go2.sub ⟨?_, ?_, ?_⟩ <;> repeat' (first | exact True.intro | rfl | apply And.intro))) (fun j hj => ?_)
  obtain ⟨j1, j2⟩ := hj
  by_cases c : j < l.length
  · have d1 := a_refkeycheck l[j].key
    have d2 := a_refvlcheck l[j].val
    cases hk : l[j].key.ok with
    | false =>
      rw [hk] at d1
      rw [entsOkB_false (entsOk_nok c hk)]
      have f1 := acall Try.func61 (d1) (by decide +kernel) (by decide +kernel)
      refine wL ?_
      exact fin ⟨res_of rfl rfl rfl, trivial⟩
    | true =>
      rw [hk] at d1
      cases hv : l[j].val.ok with
      | false =>
        rw [hv] at d2
        rw [entsOkB_false (entsOk_nov c hv)]
        have f1 := acall Try.func61 (d1) (by decide +kernel) (by decide +kernel)
        have f2 := acall Try.func62 (d2) (by decide +kernel) (by decide +kernel)
        refine wL ?_
        exact fin ⟨res_of rfl rfl rfl, trivial⟩
      | true =>
        rw [hv] at d2
        have f1 := acall Try.func61 (d1) (by decide +kernel) (by decide +kernel)
        have f2 := acall Try.func62 (d2) (by decide +kernel) (by decide +kernel)
        cases j with
        | zero =>
          refine wL ?_
          refine ⟨1, ⟨c, fun i hi hij => ?_⟩, by omega, ?_⟩
          · obtain rfl : i = 0 := by omega
            exact ⟨hk, hv, fun a ha => by omega⟩
          · (refine Go2.sub ⟨?_, ?_, ?_⟩ <;> repeat' (first | exact True.intro | rfl | apply And.intro))
        | succ m =>
          have f3 := acall Try.func55 (a_refcmp l[m].key l[m + 1].key) (by decide +kernel) (by decide +kernel)
          by_cases q : 0 ≤ refCmp l[m].key l[m + 1].key
          · rw [entsOkB_false (entsOk_noc c q)]
            refine wL ?_
            exact fin ⟨res_of rfl rfl rfl, trivial⟩
          · refine wL ?_
            refine ⟨m + 1 + 1, ⟨c, fun i hi hij => ?_⟩, by omega, ?_⟩
            · by_cases e : i = m + 1
              · subst e
                exact ⟨hk, hv, fun a ha => by
                  have e : a = m := by omega
                  subst e; exact Int.not_le.1 q⟩
              · exact j2 i hi (by omega)
            · (refine Go2.sub ⟨?_, ?_, ?_⟩ <;> repeat' (first | exact True.intro | rfl | apply And.intro))
  · rw [entsOkB_true (fun i hi => j2 i hi (by omega))]
    refine wL ?_
    exact fin ⟨res_of rfl rfl rfl, trivial⟩
end Go.Proofs.Ytkpjkfjlpiidbaa

namespace Go.Proofs.Ytkpjkfjlpiidbaa
open Go Go.RowKit
set_option linter.unusedVariables false
set_option linter.unusedSimpArgs false
set_option maxRecDepth 100000

/-- the kids by a number -/
def kidsL (v : Int) (n : Nat) : List Int := (List.range n).map fun i : Nat => 1 + v % 200 + 7 * (i : Int)
theorem kidsL_len (v : Int) (n : Nat) : (kidsL v n).length = n := by simp [kidsL]
theorem kidsL_succ (v : Int) (n : Nat) : kidsL v (n + 1) = kidsL v n ++ [1 + v % 200 + 7 * (n : Int)] := by simp [kidsL, List.range_succ]
def innerAt (v : Int) (P : List Key) : Nat → St
  | 0 => ⟨[(6, .ptr 6 0 []), (7, .ptr 7 0 []), (8, intA (1 + v % 200)), (9, intA ((0 : Nat) : Int))], [(6, .var (nodeA false nilA nilA nilA nilA)), (7, .var (nodeA false nilA nilA (keysA P) (msgsA [])))]⟩
  | j + 1 => ⟨[(6, .ptr 6 0 []), (7, .ptr 7 0 []), (8, intA (1 + v % 200)), (9, intA ((j + 1 : Nat) : Int))], [(6, .var (nodeA false nilA nilA nilA nilA)), (7, .var (nodeA false nilA (.sl (some 34) 1 ((kidsL v (j + 1)).map intA)) (keysA P) (msgsA []))), (34, .tail 3 1 (kidsL v (j + 1)).length)]⟩
attribute [local irreducible] OpOK AWops AW CondB Go2 AFn thenA inBlockA noGotoA orderOk wantedA
set_option maxRecDepth 100000 in
theorem a_msgs0 (most : Int) : AFn Try.prog 35 [intsA [], intA most] (msgsA []) := by
  refine AFn_intro Try.func35 rfl Try.ntmps35 rfl (by simp) [_] rfl fun E hE => ?_
  have h : ¬ ((0 : Nat) : Int) < (([] : List Int).length : Int) := by simp
  refine wO ?_
  refine AW_loopI (fun j : Nat => ⟨[(0, intsA []), (6, intA 0), (5, .v (.slice none 0 0))], []⟩) (fun j => True) (fun j => 0) 0 trivial (by (refine Go2.sub ⟨?_, ?_, ?_⟩ <;> repeat' (first | exact True.intro | rfl | apply And.intro))) (fun j hj => ?_)
  have h : ¬ (0 : Int) < (([] : List Int).length : Int) := by simp
  refine wO ?_
  exact fin ⟨res_nil rfl, trivial⟩
set_option maxRecDepth 100000 in
set_option maxHeartbeats 4000000 in
theorem a_inner0 (p : List Int) (v : Int) (hl : p.length ≤ 17592186044400) (hb : ∀ n ∈ p, -9223372036854775808 ≤ n ∧ n ≤ 9223372036854775807) (hv : -9223372036854775808 ≤ v ∧ v ≤ 9223372036854775807) :
    AFn Try.prog 10 [intsA p, intA v, intsA []] (nodeA false nilA (intsA (kidsL v ((pivK (16 :: p) 3).length + 1))) (keysA (pivK (16 :: p) 3)) (msgsA [])) := by
  refine AFn_intro Try.func10 rfl Try.ntmps10 rfl (by simp) [_] rfl fun E hE => ?_
  have hp := a_pivots (16 :: p) 3 (by simp; omega) (fun n hn => by rcases List.mem_cons.1 hn with rfl | hn; omega; exact hb n hn)
  have hle := pivK_le (16 :: p) 3 (by omega)
  generalize pivK (16 :: p) 3 = P at hp hle ⊢
  have c1 := acall Try.func34 (hp) (by decide +kernel) (by decide +kernel)
  have c2 := acall Try.func35 (a_msgs0 205) (by decide +kernel) (by decide +kernel)
  have c3 := acall Try.func28 (a_lplace v 200 (by omega) (by omega) hv) (by decide +kernel) (by decide +kernel)
  refine wO ?_
  refine AW_loopI (innerAt v P) (fun j => j ≤ P.length + 1) (fun j => P.length + 1 - j) 0 (Nat.zero_le _) (by unfold innerAt; (refine Go2.sub ⟨?_, ?_, ?_⟩ <;> repeat' (first | exact True.intro | rfl | apply And.intro))) (fun j hj => ?_)
  have hs := kidsL_succ v j
  have hkl := kidsL_len v j
  by_cases hlt : j ≤ P.length
  · cases j with
    | zero =>
      unfold innerAt
      refine wO ?_
      refine ⟨1, by omega, by omega, ?_⟩
      (refine Go2.sub ⟨?_, ?_, ?_⟩ <;> repeat' (first | exact True.intro | rfl | apply And.intro))
    | succ j =>
      unfold innerAt
      refine wO ?_
      refine Was 33 (AV.sl (some 33) 1 (List.map intA [1 + v % 200 + 7 * ((j + 1 : Nat) : Int)])) rfl ?_
      refine wO ?_
      refine ⟨j + 2, by omega, by omega, ?_⟩
      (refine Go2.sub ⟨?_, ?_, ?_⟩ <;> repeat' (first | exact True.intro | rfl | apply And.intro))
      all_goals (rw [hs]; rfl)
  · have : j = P.length + 1 := by omega
    subst this
    unfold innerAt
    refine wO ?_
    exact fin ⟨res_varw rfl rfl rfl rfl, trivial⟩
end Go.Proofs.Ytkpjkfjlpiidbaa

namespace Go.Proofs.Ytkpjkfjlpiidbaa
open Go Go.RowKit
set_option linter.unusedVariables false
set_option linter.unusedSimpArgs false
set_option maxRecDepth 100000

theorem putKey_ge (cmp : Key → Key → Int) (out : List Key) (x : Key) : out.length ≤ (putKey cmp out x).length := by
  have h := atOf_le cmp x out
  unfold putKey
  split
  · split
    · omega
    · simp; omega
  · omega
theorem kidsL_get (v : Int) (n i : Nat) (h : i < (kidsL v n).length) : (kidsL v n)[i] = 1 + v % 200 + 7 * (i : Int) := by
  simp [kidsL]
theorem kidsL_idx (v : Int) (n i : Nat) (h : i < n) : idxOf (kidsL v n) (1 + v % 200 + 7 * (i : Int)) = (i : Int) := by
  have : ∀ j, j ≤ i → idxFrom (1 + v % 200 + 7 * (i : Int)) j ((kidsL v n).drop j) = (i : Int) := by
    intro j hj
    induction h2 : i - j generalizing j with
    | zero =>
      have : j = i := by omega
      subst this
      exact idxFrom_hit _ _ _ (by rw [kidsL_len]; exact h) (kidsL_get v n j _)
    | succ k ih =>
      rw [idxFrom_miss _ _ _ (by rw [kidsL_len]; omega) (by rw [kidsL_get]; omega)]
      exact ih (j + 1) (by omega) (by omega)
  exact this 0 (Nat.zero_le _)
theorem kidsL_ok (v : Int) (n : Nat) (hn : n ≤ 4) : kidsFrom (kidsL v n) 0 (kidsL v n) = true := by
  have : ∀ k j, j + k = n → kidsFrom (kidsL v n) j ((kidsL v n).drop j) = true := by
    intro k
    induction k with
    | zero => intro j hj; exact kidsFrom_end _ _ _ (by rw [kidsL_len]; omega)
    | succ k ih =>
      intro j hj
      have hl : j < (kidsL v n).length := by rw [kidsL_len]; omega
      have h1 := Int.emod_nonneg v (show (200 : Int) ≠ 0 by omega)
      have h2 := Int.emod_lt_of_pos v (show (0 : Int) < 200 by omega)
      rw [kidsFrom_step _ _ _ hl, kidsL_get, kidsL_idx v n j (by omega), ih (j + 1) (by omega)]
      rw [show decide (1 ≤ 1 + v % 200 + 7 * (j : Int)) = true from decide_eq_true (by omega), show decide (1 + v % 200 + 7 * (j : Int) < 256) = true from decide_eq_true (by omega)]
      simp
  exact this n 0 (by omega)
theorem rise_ok {cs : List Key} (h : Rise cs) : risesBy keyCmp none cs = true := by
  have : ∀ (l : List Key) (p : Option Key), Rise l → (∀ q, p = some q → ∀ k ∈ l, q.rank < k.rank) → risesBy keyCmp p l = true := by
    intro l
    induction l with
    | nil => intro p _ _; rfl
    | cons k l ih =>
      intro p hr hp
      unfold risesBy
      rw [hr.1 k (List.mem_cons_self ..), ih (some k) hr.tail (fun q e => by injection e with e; subst e; exact (List.pairwise_cons.1 hr.2).1)]
      cases p with
      | none => rfl
      | some q =>
        have := hp q rfl k (List.mem_cons_self ..)
        have e : decide (keyCmp q k < 0) = true := decide_eq_true (by rw [keyCmp_rank, sgn_neg]; exact this)
        show (true && decide (keyCmp q k < 0) && true) = true
        rw [e]; rfl
  exact this cs none h (fun q e => by cases e)
theorem orderK_some (l : List Key) (x : Key) (hx : x.ok = true) : 1 ≤ (orderK (l ++ [x])).length := by
  unfold orderK
  rw [List.foldl_append]
  generalize l.foldl (putKey refCmp) [] = out
  show 1 ≤ (putKey refCmp out x).length
  unfold putKey
  rw [if_pos hx]
  split
  · rename_i h; omega
  · simp; omega
theorem pivK_some (l : List Int) (x most : Int) (hm : 1 ≤ most) : 1 ≤ (pivK (x :: l) most).length := by
  unfold pivK
  have : ∀ (l : List Int) (out : List Key), 1 ≤ out.length → 1 ≤ (l.foldl (pivStep most) out).length := by
    intro l
    induction l with
    | nil => intro out h; exact h
    | cons y l ih =>
      intro out h
      refine ih _ ?_
      unfold pivStep
      split
      · exact orderK_some _ _ (lawKey_ok y)
      · exact h
  show 1 ≤ ((l.take 19).foldl (pivStep most) (pivStep most [] x)).length
  refine this _ _ ?_
  have h1 := orderK_some [] (lawKey x) (lawKey_ok x)
  have h2 := orderK_len ([] ++ [lawKey x])
  unfold pivStep
  rw [if_pos (by simp at h2 ⊢; omega)]
  exact h1
theorem two_ok (v : Int) (p : List Int) : fanOkBy keyCmp (kidsL v ((pivK (16 :: p) 3).length + 1)) (pivK (16 :: p) 3) = true := by
  have h1 := pivK_some p 16 3 (by omega)
  have h2 := pivK_le (16 :: p) 3 (by omega)
  rw [fan_on _ _ keyCmp (by rw [kidsL_len]; omega) (by rw [kidsL_len]; omega) (by rw [kidsL_len]) (kidsL_ok v _ (by omega))]
  exact rise_ok (pivK_rise _ _)
attribute [local irreducible] OpOK AWops AW CondB Go2 AFn thenA inBlockA noGotoA orderOk wantedA
end Go.Proofs.Ytkpjkfjlpiidbaa

namespace Go.Proofs.Ytkpjkfjlpiidbaa
open Go Go.RowKit
set_option linter.unusedVariables false
set_option linter.unusedSimpArgs false
set_option maxRecDepth 100000

/-! ### a message more -/
theorem get_hit_ex {l : List Msg} (h : BSrt l) {k : Key} {x : Msg} (hg : bfGet k l = some x) : ∃ hi : bfAt k l < l.length, l[bfAt k l].key = k := by
  obtain ⟨hm, hk⟩ := (bfGet_iff h k x).1 hg
  obtain ⟨i, hi, he⟩ := List.mem_iff_getElem.1 hm
  have e := bat_hit h (k := k) hi (by rw [he, hk])
  subst e
  exact ⟨hi, by rw [he, hk]⟩
theorem add_len_hit {l : List Msg} (h : BSrt l) {m x : Msg} (hg : bfGet m.key l = some x) : (bfAdd l m).length = l.length := by
  obtain ⟨hi, he⟩ := get_hit_ex h hg
  rw [add_hit h m hi he]
  simp only [List.length_append, List.length_take, List.length_drop, List.length_singleton]
  omega
theorem add_len_no {l : List Msg} (h : Bf l) {m : Msg} (hm : m.ok = true) (hg : bfGet m.key l = none) : (bfAdd l m).length = l.length + 1 := by
  have hle := bfAt_le m.key l
  rw [add_no h m (Msg.spec hm).2.2.1 (fun hi e => by rw [bget_hit h.srt hi e] at hg; cases hg)]
  simp only [List.length_append, List.length_take, List.length_drop, List.length_singleton]
  omega
/-! ### batches -/
theorem batch_facts (l : List Msg) : batchN l ≤ l.length ∧ bSum (l.take (batchN l)) ≤ 96 ∧ min 2 l.length ≤ batchN l ∧ (batchN l < l.length → 96 < bSum (l.take (batchN l + 1))) := by
  obtain ⟨h1, h2, h3, h4⟩ := batchF_le l l.length 0 (Nat.zero_le _)
  change batchN l ≤ _ at h1
  have h3' := h3 (by omega)
  change batchN l < l.length → 96 < bSum (l.take (batchN l + 1)) at h3'
  change 0 = batchN l ∨ bSum (l.take (batchN l)) ≤ 96 at h4
  refine ⟨h1, ?_, ?_, h3'⟩
  · rcases h4 with h4 | h4
    · rw [← h4]; simp [bSum]
    · exact h4
  · by_cases c : batchN l < l.length
    · have h5 := h3' c
      have h6 := bSum_le (l.take (batchN l + 1))
      rw [List.length_take] at h6
      by_cases d : 2 ≤ batchN l
      · omega
      · omega
    · omega
theorem less_take {l : List Msg} (h : BSrt l) (n : Nat) : bfLess l (l.take n) = l.drop n := by
  have hs : BSrt (l.take n) := h.sublist (List.take_sublist n l)
  have hp := List.pairwise_iff_getElem.1 h
  have e : l = l.take n ++ l.drop n := (List.take_append_drop n l).symm
  unfold bfLess
  rw [show l.filter (goneP (l.take n)) = (l.take n ++ l.drop n).filter (goneP (l.take n)) from by rw [← e], List.filter_append]
  have h1 : (l.take n).filter (goneP (l.take n)) = [] := by
    rw [List.filter_eq_nil_iff]
    intro m hm
    unfold goneP
    rw [(bfGet_iff hs m.key m).2 ⟨hm, rfl⟩]
    simp
  have h2 : (l.drop n).filter (goneP (l.take n)) = l.drop n := by
    rw [List.filter_eq_self]
    intro m hm
    unfold goneP
    cases hg : bfGet m.key (l.take n) with
    | none => rfl
    | some x =>
      obtain ⟨h3, h4⟩ := (bfGet_iff hs m.key x).1 hg
      obtain ⟨i, hi, rfl⟩ := List.mem_iff_getElem.1 h3
      obtain ⟨j, hj, rfl⟩ := List.mem_iff_getElem.1 hm
      rw [List.length_take] at hi
      rw [List.length_drop] at hj
      have := h.lt (i := i) (j := n + j) (by omega) (by omega) (by omega)
      simp only [List.getElem_take, List.getElem_drop] at h4
      rw [h4] at this; omega
  rw [h1, h2]
  rfl
/-! ### what is left -/
theorem less_bf {l : List Msg} (h : Bf l) (g : List Msg) : Bf (bfLess l g) := ⟨fun m hm => h.ok m (List.mem_filter.1 hm).1, h.srt.sublist List.filter_sublist⟩
theorem less_len (l g : List Msg) : (bfLess l g).length ≤ l.length := List.length_filter_le _ _
theorem less_get {l : List Msg} (h : Bf l) (g : List Msg) (k : Key) : bfGet k (bfLess l g) = if (bfGet k g).isSome = true then none else bfGet k l := by
  apply Option.ext
  intro m
  rw [bfGet_iff (less_bf h g).srt]
  unfold bfLess
  rw [List.mem_filter]
  by_cases c : (bfGet k g).isSome = true
  · rw [if_pos c]
    constructor
    · rintro ⟨⟨_, h2⟩, rfl⟩
      unfold goneP at h2
      rw [c] at h2; cases h2
    · intro e; cases e
  · rw [if_neg c, bfGet_iff h.srt]
    constructor
    · rintro ⟨⟨h1, _⟩, h2⟩; exact ⟨h1, h2⟩
    · rintro ⟨h1, rfl⟩
      refine ⟨⟨h1, ?_⟩, rfl⟩
      unfold goneP
      simpa using c
theorem less_nil (l : List Msg) : bfLess l [] = l := by
  unfold bfLess
  rw [List.filter_eq_self]
  intro m _; rfl
theorem less_self {l : List Msg} (h : BSrt l) : bfLess l l = [] := by
  have := less_take h l.length
  rw [List.take_length, List.drop_length] at this
  exact this
/-! ### folds -/
theorem get_ball_srt {x : Key} (hx : x.ok = true) : ∀ {ms b : List Msg}, Bf b → Bf ms → bfGet x (bfAll b ms) = match bfGet x ms with
    | some m => some (newM m (bfGet x b))
    | none => bfGet x b
  | [], b, _, _ => rfl
  | m :: ms, b, h, hm => by
    have hm0 := hm.ok m (by simp)
    have ht : Bf ms := ⟨fun y hy => hm.ok y (List.mem_cons_of_mem _ hy), hm.srt.tail⟩
    have ih := get_ball_srt hx (bf_add h hm0) ht
    have e1 : bfAll b (m :: ms) = bfAll (bfAdd b m) ms := rfl
    rw [e1, ih, get_add h hm0 hx]
    by_cases c : x = m.key
    · have hg : bfGet x ms = none := by
        unfold bfGet
        rw [List.find?_eq_none]
        intro y hy
        have := hm.srt.head y hy
        simp only [decide_eq_true_eq]
        intro e
        rw [e, c] at this; omega
      have hg2 : bfGet x (m :: ms) = some m := by unfold bfGet; rw [List.find?_cons_of_pos]; simp [c]
      rw [hg, hg2, if_pos c, c]
    · have hg2 : bfGet x (m :: ms) = bfGet x ms := by unfold bfGet; rw [List.find?_cons_of_neg]; simp; exact fun e => c e.symm
      rw [hg2, if_neg c]
theorem ball_nil {l : List Msg} (h : Bf l) : bfAll [] l = l := by
  refine bf_ext (bf_all bf_nil h.ok) h fun k hk => ?_
  rw [get_ball_srt hk bf_nil h]
  cases bfGet k l <;> rfl
/-! ### parts -/
def partI (l : List Msg) (cuts : List Key) (i : Int) : List Msg := if 0 ≤ i ∧ i ≤ cuts.length then bfPart l cuts i.toNat else []
theorem part_len (l : List Msg) (cuts : List Key) (n : Nat) : (bfPart l cuts n).length ≤ l.length := by
  unfold bfPart
  rw [List.length_drop, List.length_take]; omega
theorem partI_len (l : List Msg) (cuts : List Key) (i : Int) : (partI l cuts i).length ≤ l.length := by
  unfold partI
  split
  · exact part_len _ _ _
  · simp
theorem a_bufpartI (l : List Msg) (cuts : List Key) (i : Int) (h : BSrt l) (hl : l.length ≤ 100000000) (hl2 : cuts.length ≤ 100000000) : AFn Try.prog 38 [msgsA l, keysA cuts, intA i] (msgsA (partI l cuts i)) := by
  unfold partI
  by_cases c : 0 ≤ i ∧ i ≤ cuts.length
  · rw [if_pos c]
    have := a_bufpart l cuts i.toNat h (by omega) hl hl2
    rwa [Int.toNat_of_nonneg c.1] at this
  · rw [if_neg c]
    exact a_bufpart_no l cuts i (by omega)
theorem a_ref06partI (l : List Msg) (cuts : List Key) (i : Int) (h : Bf l) (hr : Rise cuts) (hl : l.length ≤ 100000000) (hl2 : cuts.length ≤ 100000000) : AFn Try.prog 39 [msgsA l, keysA cuts, intA i] (msgsA (partI l cuts i)) := by
  unfold partI
  by_cases c : 0 ≤ i ∧ i ≤ cuts.length
  · rw [if_pos c]
    have := a_ref06part l cuts i.toNat h hr (by omega) hl hl2
    rwa [Int.toNat_of_nonneg c.1] at this
  · rw [if_neg c]
    exact a_ref06part_no l cuts i (by omega)
end Go.Proofs.Ytkpjkfjlpiidbaa

namespace Go.Proofs.Ytkpjkfjlpiidbaa
open Go Go.RowKit
set_option linter.unusedVariables false
set_option linter.unusedSimpArgs false
set_option maxRecDepth 100000

theorem bfAt_mono {a b : Key} (h : a.rank ≤ b.rank) (l : List Msg) : bfAt a l ≤ bfAt b l := by
  unfold bfAt
  apply List.countP_mono_left
  intro z hz hc
  simp only [decide_eq_true_eq] at hc ⊢
  omega
/-- how many of the buffer stand ahead of a part -/
def accP (cuts : List Key) (l : List Msg) (j : Nat) : Nat := if j ≤ cuts.length then pFrom cuts l j else l.length
theorem accP_zero (cuts : List Key) (l : List Msg) : accP cuts l 0 = 0 := by unfold accP; rw [if_pos (Nat.zero_le _)]; rfl
theorem accP_end (cuts : List Key) (l : List Msg) : accP cuts l (cuts.length + 1) = l.length := by unfold accP; rw [if_neg (by omega)]
theorem from_le_to {cuts : List Key} (hr : Rise cuts) (l : List Msg) (j : Nat) (hj : j ≤ cuts.length) : pFrom cuts l j ≤ pTo cuts l j := by
  cases j with
  | zero => exact Nat.zero_le _
  | succ m =>
    rw [pFrom_succ l hj]
    by_cases c : m + 1 < cuts.length
    · rw [pTo_in l c]
      exact bfAt_mono (Nat.le_of_lt (hr.at hj c (by omega))) l
    · rw [pTo_out l c]; exact bfAt_le _ _
theorem accP_step {cuts : List Key} (hr : Rise cuts) (l : List Msg) (j : Nat) (hj : j ≤ cuts.length) : l.take (accP cuts l j) ++ bfPart l cuts j = l.take (accP cuts l (j + 1)) := by
  have e1 : accP cuts l j = pFrom cuts l j := if_pos hj
  have e2 : accP cuts l (j + 1) = pTo cuts l j := by
    unfold accP
    by_cases c : j + 1 ≤ cuts.length
    · rw [if_pos c, pFrom_succ l c, pTo_in l c]
    · rw [if_neg c, pTo_out l (by omega)]
  have hle := from_le_to hr l j hj
  rw [e1, e2]
  unfold bfPart
  rw [show l.take (pFrom cuts l j) = (l.take (pTo cuts l j)).take (pFrom cuts l j) from by rw [List.take_take, Nat.min_eq_left hle], List.take_append_drop]
theorem part_mem {cuts : List Key} {l : List Msg} (h : BSrt l) {n : Nat} {m : Msg} (hm : m ∈ bfPart l cuts n) : m ∈ l ∧ keepLo cuts m n = true ∧ keepHi cuts m n = true := by
  rw [← part_keep h, List.mem_filter] at hm
  unfold keepP at hm
  rw [Bool.and_eq_true] at hm
  exact ⟨hm.1, hm.2.1, hm.2.2⟩
end Go.Proofs.Ytkpjkfjlpiidbaa

namespace Go.Proofs.Ytkpjkfjlpiidbaa
open Go Go.RowKit
set_option linter.unusedVariables false
set_option linter.unusedSimpArgs false
set_option maxRecDepth 100000

structure Nd where
  leaf : Bool
  es : List Ent
  ks : List Int
  ps : List Key
  ms : List Msg
deriving DecidableEq
def Nd.av (n : Nd) : AV := nodeA n.leaf (entsA n.es) (intsA n.ks) (keysA n.ps) (msgsA n.ms)
/-- what a leaf may be, what an inner node may be -/
noncomputable def leafOk (cmp : Key → Key → Int) (n : Nd) : Bool := entsOkB cmp n.es && decide (n.ks.length + n.ps.length + n.ms.length = 0)
noncomputable def innerOk (cmp : Key → Key → Int) (n : Nd) : Bool := decide (n.es.length = 0) && fanOkBy cmp n.ks n.ps && msgsOkB cmp n.ms
noncomputable def nodeOk (cmp : Key → Key → Int) (n : Nd) : Bool := if n.leaf = true then leafOk cmp n else innerOk cmp n
theorem nodeOk_ref (n : Nd) : nodeOk refCmp n = nodeOk keyCmp n := by
  unfold nodeOk leafOk innerOk
  rw [entsOkB_ref, fanOk_eq, msgsOkB_ref]
def ndBytes (n : Nd) : Int := if n.leaf = true then eSum n.es else bSum n.ms
noncomputable def nodeFits (n : Nd) : Bool := nodeOk keyCmp n && decide (ndBytes n ≤ if n.leaf = true then 248 else 205)
theorem nodeOk_ebd {n : Nd} (h : nodeOk keyCmp n = true) (hl : n.leaf = true) : EBd n.es := by
  unfold nodeOk at h
  rw [if_pos hl] at h
  unfold leafOk at h
  rw [Bool.and_eq_true] at h
  have h1 : EntsOk keyCmp n.es := by
    apply Classical.byContradiction
    intro hn
    rw [entsOkB_false hn] at h
    cases h.1
  intro e he
  obtain ⟨j, hj, rfl⟩ := List.getElem_of_mem he
  exact ⟨Key.n_le (h1 j hj).1, Vl.n_le (h1 j hj).2.1⟩
def ndHeavy (n : Nd) : Bool := !n.leaf && decide (205 ≤ 2 * bSum n.ms)
/-! ### weights -/
def ndWeights (n : Nd) : List Int := if n.leaf = true then [] else (List.range n.ks.length).map fun i => bSum (bfPart n.ms n.ps i)
def wtsAt (n : Nd) (j : Nat) : List Int := (List.range j).map fun i => bSum (bfPart n.ms n.ps i)
theorem wtsAt_succ (n : Nd) (j : Nat) : wtsAt n (j + 1) = wtsAt n j ++ [bSum (bfPart n.ms n.ps j)] := by simp [wtsAt, List.range_succ]
theorem wtsAt_len (n : Nd) (j : Nat) : (wtsAt n j).length = j := by simp [wtsAt]
/-- the place of the first that has most, and how much that is -/
def hvStep (i : Nat) (s : Int × Int) (x : Int) : Int × Int := if s.2 < x then ((i : Int), x) else s
def hvAt (w : List Int) : Nat → Int × Int
  | 0 => (-1, 0)
  | j + 1 => match w[j]? with
    | some x => hvStep j (hvAt w j) x
    | none => hvAt w j
def hvOf (w : List Int) : Int := (hvAt w w.length).1
theorem hvAt_succ (w : List Int) (j : Nat) (h : j < w.length) : hvAt w (j + 1) = hvStep j (hvAt w j) w[j] := by
  show (match w[j]? with | some x => hvStep j (hvAt w j) x | none => hvAt w j) = _
  rw [List.getElem?_eq_getElem h]
theorem hvAt_bd (w : List Int) (b : Int) (hb : ∀ x ∈ w, x ≤ b) (h0 : 0 ≤ b) : ∀ j, j ≤ w.length → 0 ≤ (hvAt w j).2 ∧ (hvAt w j).2 ≤ b ∧ -1 ≤ (hvAt w j).1 ∧ (hvAt w j).1 < (j : Int)
  | 0, _ => by simp [hvAt]; exact h0
  | j + 1, h => by
    have ih := hvAt_bd w b hb h0 j (by omega)
    rw [hvAt_succ w j (by omega)]
    unfold hvStep
    split
    · have := hb _ (List.getElem_mem (by omega : j < w.length))
      refine ⟨by omega, this, ?_, ?_⟩
      · show -1 ≤ (j : Int); omega
      · show (j : Int) < ((j + 1 : Nat) : Int); omega
    · exact ⟨ih.1, ih.2.1, ih.2.2.1, by omega⟩
/-- what the state tells: none above nothing, or the place of the first of the most -/
theorem hvAt_is (w : List Int) : ∀ j, j ≤ w.length → ((hvAt w j).1 = -1 ∧ (hvAt w j).2 = 0 ∧ ∀ i (h : i < w.length), i < j → w[i] ≤ 0) ∨ (∃ a, ∃ h : a < w.length, a < j ∧ (hvAt w j).1 = (a : Int) ∧ (hvAt w j).2 = w[a] ∧ 0 < w[a] ∧ (∀ i (h : i < w.length), i < j → w[i] ≤ w[a]) ∧ ∀ i (h : i < w.length), i < a → w[i] < w[a])
  | 0, _ => .inl ⟨rfl, rfl, fun i h k => absurd k (Nat.not_lt_zero _)⟩
  | j + 1, h => by
    have hj : j < w.length := h
    rw [hvAt_succ w j hj]
    unfold hvStep
    rcases hvAt_is w j (Nat.le_of_lt hj) with ⟨e1, e2, e3⟩ | ⟨a, ha, h1, e1, e2, e3, e4, e5⟩
    · rw [e2]
      split
      · rename_i c
        refine .inr ⟨j, hj, Nat.lt_succ_self _, rfl, rfl, c, fun i hi k => ?_, fun i hi k => ?_⟩
        · by_cases hij : i = j
          · subst hij; exact Int.le_refl _
          · have := e3 i hi (by omega); omega
        · have := e3 i hi k; omega
      · rename_i c
        refine .inl ⟨e1, e2, fun i hi k => ?_⟩
        by_cases hij : i = j
        · subst hij; omega
        · exact e3 i hi (by omega)
    · rw [e2]
      split
      · rename_i c
        refine .inr ⟨j, hj, Nat.lt_succ_self _, rfl, rfl, by show 0 < w[j]; omega, fun i hi k => ?_, fun i hi k => ?_⟩
        · by_cases hij : i = j
          · subst hij; exact Int.le_refl _
          · have := e4 i hi (by omega); omega
        · have := e4 i hi k; omega
      · rename_i c
        refine .inr ⟨a, ha, by omega, e1, e2, e3, fun i hi k => ?_, e5⟩
        by_cases hij : i = j
        · subst hij; omega
        · exact e4 i hi (by omega)
end Go.Proofs.Ytkpjkfjlpiidbaa

namespace Go.Proofs.Ytkpjkfjlpiidbaa
open Go Go.RowKit
set_option linter.unusedVariables false
set_option linter.unusedSimpArgs false
set_option maxRecDepth 100000

section
variable {E : Env} {nt : Nat} {ops : Array Oper} {T : Nat → Option AV} {H : Hp} {d : Option Nat} {ty : TypeId} {pos : String} {af : Array Edge} {gd : Option (Nat × Bool)}
theorem wrap_u8' (n : Int) : IntKind.u8.wrap n = n % 256 := by simp [IntKind.wrap, IntKind.bits, IntKind.signed]
/-- an int as a byte -/
theorem o_convb {s t : TypeId} {x : Operand} {n : Int} (hs : ∃ u, Try.prog.underlying s = some u) (ht : Try.prog.underlying t = some (.int .u8)) (hd : dOk nt d = true) (hx : evalO T x = some (.v (.int .i64 n))) : OpOK Try.prog E nt ops ⟨d, .convert s t x, ty, pos, af, gd⟩ T H [] ⟨byteA (BitVec.ofInt 8 n), []⟩ :=
  ok_conv_i hs ht hd hx (by rw [B8_def, BitVec.toNat_ofInt, wrap_u8']; omega)
theorem o_convu {s t : TypeId} {x : Operand} {n : Int} (hs : ∃ u, Try.prog.underlying s = some u) (ht : Try.prog.underlying t = some (.int .u64)) (hd : dOk nt d = true) (hx : evalO T x = some (.v (.int .i64 n))) : OpOK Try.prog E nt ops ⟨d, .convert s t x, ty, pos, af, gd⟩ T H [] ⟨u64A (BitVec.ofInt 64 n), []⟩ :=
  ok_conv_i hs ht hd hx (by rw [D64_def, BitVec.toNat_ofInt, wrap_u64']; omega)
theorem D64_mul (x y : BitVec 64) : IntKind.u64.wrap (D64 x * D64 y) = D64 (x * y) := by
  rw [wrap_u64', D64_def, D64_def, D64_def, BitVec.toNat_mul, ← Int.natCast_mul]
  omega
theorem o_mulu {t t' : TypeId} {x y : Operand} {a : BitVec 64} {c : Int} (hd : dOk nt d = true) (hx : evalO T x = some (.v (.int .u64 (D64 a)))) (hy : evalO T y = some (.v (.int .u64 c))) (h0 : 0 ≤ c ∧ c < 18446744073709551616) : OpOK Try.prog E nt ops ⟨d, .binOp .mul t x y t', ty, pos, af, gd⟩ T H [] ⟨u64A (a * BitVec.ofInt 64 c), []⟩ := by
  have := D64_ofInt c h0.1 h0.2
  rw [← this] at hy
  exact ok_mul hd hx hy (D64_mul a _)
/-- a row of bytes as a string -/
theorem bytes_row {U : Uns} {w : World} {B : Blk} {H : Hp} : ∀ {l : List (BitVec 8)} {c : List Value}, Rdu U w 1 (l.map byteA) B H c → c = (l.map fun b => Int.ofNat b.toNat).map (Value.int .u8)
  | [], c, h => by simpa [Rdu] using h
  | b :: l, c, h => by
    simp only [List.map_cons, Rdu] at h
    obtain ⟨c1, c2, rfl, h1, h2, h3⟩ := h
    rw [bytes_row h3]
    simp only [byteA, Rd] at h2
    rw [h2.2, B8_def]
    simp
theorem foldl_push (l : List (BitVec 8)) : (l.map fun b => Int.ofNat b.toNat).foldl (fun r n => r.push (UInt8.ofNat n.toNat)) ByteArray.empty = bytesOf l := by
  have hf : ∀ (l : List (BitVec 8)) (s : ByteArray), ((l.map fun b => Int.ofNat b.toNat).foldl (fun r n => r.push (UInt8.ofNat n.toNat)) s) = ⟨s.data ++ (l.map fun b => UInt8.ofNat b.toNat).toArray⟩ := by
    intro l
    induction l with
    | nil => intro s; simp
    | cons x l ih =>
      intro s
      rw [List.map_cons, List.foldl_cons, ih]
      congr 1
      simp [ByteArray.push]
  rw [hf, bytesOf_def]
  congr 1
  simp only [ByteArray.empty, ByteArray.emptyWithCapacity]
  have hm : (l.map fun b => UInt8.ofNat b.toNat) = l.map UInt8.ofBitVec := List.map_congr_left fun b _ => by
    apply UInt8.eq_of_toBitVec_eq
    simp
  rw [hm]
  apply Array.ext'
  rw [Array.toList_append]
  rfl
theorem o_convs {s t e : TypeId} {x : Operand} {tok : Option Nat} {l : List (BitVec 8)} (hs : Try.prog.underlying s = some (.slice e)) (he : Try.prog.underlying e = some (.int .u8)) (ht : Try.prog.underlying t = some .string) (hd : dOk nt d = true) (hx : evalO T x = some (.sl tok 1 (l.map byteA))) : OpOK Try.prog E nt ops ⟨d, .convert s t x, ty, pos, af, gd⟩ T H [] ⟨.v (.string (bytesOf l)), []⟩ :=
  ok_val hd fun B T' H' a w r hto hh => by
    have h := Rdv_one (by simp) (r.eval ((hto x (by simp [Op.operands])).trans hx)) rfl
    simp only [Rd] at h
    obtain ⟨A, cap, h1, h2, h3, h4, _⟩ := h
    injection h1 with h1
    refine ⟨.string (bytesOf l), ?_, by rw [Rdv_v]; exact ⟨rfl, rfl⟩⟩
    have hcv := run_convert_bytes_string (P := Try.prog) w s t e A (l.map byteA).length cap hs he ht
    simp only [execOp, h1, hcv, Sem.run_bind]
    by_cases h0 : 0 < (l.map byteA).length
    · obtain ⟨b, off, c, rfl, k1, _, k3⟩ := h4 h0
      have hc := bytes_row k3
      rw [Nat.mul_one] at k1
      have hl := run_loadCells_row (P := Try.prog) k1
      rw [hc] at hl
      rw [run_bytesToString w _ _ cap _ hl, foldl_push]
      rfl
    · have hl0 : l = [] := by cases l with
        | nil => rfl
        | cons a l => simp at h0
      subst hl0
      have hlc : (loadCells ⟨0, 0, none⟩ 0).run Try.prog w = .ok #[] w := by simp [loadCells, loadCellsFrom]
      cases A with
      | none => simp [Conv.bytesToString, bytesOf_def]; rfl
      | some a =>
        have := run_bytesToString (P := Try.prog) w a 0 cap [] (by simp [loadCells, loadCellsFrom])
        rw [List.length_map, List.length_nil, this]
        simp [bytesOf_def]
        rfl
/-- a made row, as the image of a list -/
theorem o_make {α : Type} {f : α → AV} {x0 : α} {t e : TypeId} {es bytes : Nat} {ea : Bool} {x y : Operand} {k k' : IntKind} {n : Nat} {g : Nat} (hd : dOk nt (some g) = true) (hs : tabT.ti t = some (.sl e (es + 1) bytes ea)) (hz : zeroT e = some (f x0)) (hx : evalO T x = some (.v (.int k (n : Nat)))) (hy : evalO T y = some (.v (.int k' (n : Nat)))) (hg : H g = none) (hb : bytes * n ≤ 140737488355328) (hn : n ≤ 9223372036854775807) :
    OpOK Try.prog E nt ops ⟨some g, .makeSlice t x y, ty, pos, af, gd⟩ T H [] ⟨.seg g 0 (es + 1) [] n n, [(g, .var (.arr (n * (es + 1)) (es + 1) ((List.replicate n x0).map f)))]⟩ := by
  rw [List.map_replicate]
  exact ok_make tabT hd hs (zeroT_ok hz) hx hy hg hb hn
theorem o_idxs {x ix : Operand} {t e : TypeId} {es bytes : Nat} {ea : Bool} {g off len cap : Nat} {p : List Nat} {k : IntKind} {i : Nat} (hd : dOk nt d = true) (hs : tabT.ti t = some (.sl e es bytes ea)) (hx : evalO T x = some (.seg g off es p len cap)) (hi : evalO T ix = some (.v (.int k (i : Nat)))) (hl : i < len) :
    OpOK Try.prog E nt ops ⟨d, .indexAddr t x ix, ty, pos, af, gd⟩ T H [] ⟨.ptr g (off + i * es) (p ++ [i]), []⟩ := ok_idx_seg tabT hd hs hx hi hl
/-- an element of a made row stored -/
theorem o_stm {α : Type} {f : α → AV} {xs : List α} {b : α} {x y : Operand} {t : TypeId} {g m es i : Nat} (hx : evalO T x = some (.ptr g (0 + i * es) ([] ++ [i]))) (hy : evalO T y = some (f b)) (hg : H g = some (.var (.arr m es (xs.map f)))) (hi : i < xs.length)
    (hs : tabT.sa t = some (isAggA (f b), es)) (hsz : sizeA (f b) = es) (hsa : ∀ a, sizeA (f a) = es) (hdt : dataA (f b) = true) (hnt : notTup (f b) = true) :
    OpOK Try.prog E nt ops ⟨none, .store t x y, ty, pos, af, gd⟩ T H [] ⟨.tup [], [(g, .var (.arr m es ((xs.set i b).map f)))]⟩ := by
  have hsub : subA ([] ++ [i]) (.arr m es (xs.map f)) = some (f xs[i]) := by simp [subA, hi]
  have hoff : offA ([] ++ [i]) (.arr m es (xs.map f)) = 0 + i * es := by simp [offA]
  have hset : setA (f b) ([] ++ [i]) (.arr m es (xs.map f)) = some (.arr m es ((xs.set i b).map f)) := by simp [setA, hi, hdt, List.map_set]
  exact ok_store tabT (d := none) rfl hx hy hg hsub hoff hset (by rw [hsz]; exact hs) (by rw [hsz, hsa]) hnt
end
end Go.Proofs.Ytkpjkfjlpiidbaa

namespace Go.Proofs.Ytkpjkfjlpiidbaa
open Go Go.RowKit
set_option linter.unusedVariables false
set_option linter.unusedSimpArgs false
set_option maxRecDepth 100000

def vByte (k i : Nat) : BitVec 8 := BitVec.ofInt 8 ((k : Int) / 17 + (i : Int) * ((k : Int) / 4352))
def vText (k : Nat) : List (BitVec 8) := (List.range (k % 17)).map (vByte k)
def lawVl (v : Int) : Vl := mkVl (vText (v % 1099511627776).toNat)
theorem vText_len (k : Nat) : (vText k).length = k % 17 := by simp [vText]
theorem lawVl_ok (v : Int) : (lawVl v).ok = true := mkVl_ok _ (by rw [vText_len]; omega)
/-- the row behind j bytes -/
def vRow (k j : Nat) : List (BitVec 8) := (vText k).take j ++ List.replicate (k % 17 - j) 0#8
theorem vRow_zero (k : Nat) : vRow k 0 = List.replicate (k % 17) 0#8 := by simp [vRow]
theorem vRow_end (k : Nat) : vRow k (k % 17) = vText k := by
  unfold vRow
  rw [List.take_of_length_le (by rw [vText_len]; exact Nat.le_refl _)]
  simp
theorem vRow_len (k j : Nat) (h : j ≤ k % 17) : (vRow k j).length = k % 17 := by
  unfold vRow
  rw [List.length_append, List.length_take, List.length_replicate, vText_len]
  omega
theorem vRow_set (k j : Nat) (h : j < k % 17) : (vRow k j).set j (vByte k j) = vRow k (j + 1) := by
  unfold vRow
  have hl : ((vText k).take j).length = j := by rw [List.length_take, vText_len]; omega
  rw [List.set_append, if_neg (by omega), hl, Nat.sub_self, show k % 17 - j = (k % 17 - (j + 1)) + 1 by omega, List.replicate_succ, List.set_cons_zero]
  rw [← List.take_append_getElem (show j < (vText k).length by rw [vText_len]; exact h)]
  simp [vText]
theorem a_refvlof (xs : List (BitVec 8)) (h : xs.length ≤ 16) : AFn Try.prog 67 [.v (.string (bytesOf xs))] (.tup [(mkVl xs).av, intA 0]) := fun U w vs hr => by
  obtain ⟨v1, us, rfl, h1, hr⟩ := rdp_one hr
  obtain rfl := rdp_nil hr
  rw [(Rdv_v.1 h1).2]
  have := refvlof_any xs w
  rw [if_pos h] at this
  exact ofIs this fun w' => by
    rw [Rdv_tup]
    refine ⟨[.agg (mkVl xs).arr, .int .i64 0], rfl, ?_⟩
    simp only [Rdp]
    exact ⟨(mkVl xs).arr.toList, [.int .i64 0], rfl, Vl.rd.2 rfl, [.int .i64 0], [], rfl, (rd_v rfl).2 rfl, rfl⟩
attribute [local irreducible] OpOK AWops AW CondB Go2 AFn thenA inBlockA noGotoA orderOk wantedA
set_option maxRecDepth 100000 in
set_option maxHeartbeats 4000000 in
theorem a_lval (v : Int) (hv : -9223372036854775808 ≤ v ∧ v ≤ 9223372036854775807) : AFn Try.prog 56 [intA v] (lawVl v).av := by
  refine AFn_intro Try.func56 rfl Try.ntmps56 rfl (by simp) [_] rfl fun E hE => ?_
  obtain ⟨k, hk⟩ : ∃ k : Nat, v % 1099511627776 = (k : Int) := ⟨(v % 1099511627776).toNat, by omega⟩
  have hlt : k < 1099511627776 := by omega
  have hlv : lawVl v = mkVl (vText k) := by unfold lawVl; rw [hk]; rfl
  rw [hlv]
  have c1 := a_lplace v 1099511627776 (by omega) (by omega) hv
  rw [hk] at c1
  have c2 := a_refvlof (vText k) (by rw [vText_len]; omega)
  have d1 := acall Try.func28 (c1) (by decide +kernel) (by decide +kernel)
  have d2 := acall Try.func67 (c2) (by decide +kernel) (by decide +kernel)
  refine wS ?_
  refine Wri 13 ((k % 17 : Nat) : Int) rfl (by omega) ?_
  refine wS ?_
  (apply Wb; (focus (exact o_make (f := byteA) (x0 := 0#8) (n := k % 17) rfl rfl rfl rfl rfl rfl (by omega) (by omega))); (focus (first | exact want_n | exact want_g rfl (by with_reducible rfl))))
  refine wS ?_
  refine AW_loopI (fun j : Nat => ⟨[(2, .ptr 2 0 []), (3, intA k), (4, intA (k % 17 : Nat)), (5, .seg 14 0 1 [] (k % 17) (k % 17)), (6, intA j)], [(2, .var Vl.zero.av), (14, .var (.arr (k % 17 * 1) 1 ((vRow k j).map byteA)))]⟩) (fun j => j ≤ k % 17) (fun j => k % 17 - j) 0 (Nat.zero_le _) (by rw [vRow_zero]; (refine Go2.sub ⟨?_, ?_, ?_⟩ <;> repeat' (first | exact True.intro | rfl | apply And.intro))) (fun j hj => ?_)
  by_cases c : j < k % 17
  · have hs := vRow_set k j c
    have hl := vRow_len k j hj
    have hm : (j : Int) * ((k : Int) / 4352) ≤ 17 * 252645136 := by
      have h1 : (j : Int) ≤ 17 := by omega
      have h2 : (k : Int) / 4352 ≤ 252645136 := by omega
      have h3 : 0 ≤ (k : Int) / 4352 := by omega
      exact Int.mul_le_mul h1 h2 h3 (by omega)
    have hm0 : 0 ≤ (j : Int) * ((k : Int) / 4352) := Int.mul_nonneg (by omega) (by omega)
    generalize hmm : (j : Int) * ((k : Int) / 4352) = mm at hm hm0
    refine wS ?_
    (apply Ws; (focus (exact o_stm (f := byteA) (b := vByte k j) rfl (by unfold vByte; rw [hmm]; rfl) rfl (by omega) rfl rfl (fun _ => rfl) rfl rfl)); (focus (first | exact want_n | exact want_g rfl (by with_reducible rfl))))
    refine wS ?_
    refine ⟨j + 1, by omega, by omega, ?_⟩
    (refine Go2.sub ⟨?_, ?_, ?_⟩ <;> repeat' (first | exact True.intro | rfl | apply And.intro))
    all_goals (rw [hs]; rfl)
  · obtain rfl : j = k % 17 := by omega
    rw [vRow_end]
    have hl := vText_len k
    refine AW_go (Go2.froz hE 14 rfl) ?_
    refine AW_go (Go2.seg 5 14 rfl rfl rfl rfl (by simp; omega)) ?_
    refine AW_go (Go2.as 5 (.sl none 1 ((vText k).map byteA)) (by rw [← hl, ← List.length_map (f := byteA), List.take_length]; rfl)) ?_
    refine wS ?_
    exact fin ⟨res_var rfl rfl rfl rfl, trivial⟩
/-- the laws' message by a number -/
def lawMsg (v seq : Int) : Msg :=
  let k := v % 1099511627776
  ⟨1 + k % 3, BitVec.ofInt 64 (seq % 1099511627776), lawKey (k / 4), if k % 3 = 0 then lawVl (k / 64) else Vl.zero, if k % 3 = 2 then BitVec.ofInt 64 (k / 1024) * BitVec.ofInt 64 65537 else 0#64⟩
theorem lawMsg_ok (v seq : Int) : (lawMsg v seq).ok = true := by
  have h0 := Int.emod_nonneg (v % 1099511627776) (show (3 : Int) ≠ 0 by omega)
  have h1 := Int.emod_lt_of_pos (v % 1099511627776) (show (0 : Int) < 3 by omega)
  unfold Msg.ok lawMsg
  simp only [lawKey_ok, Bool.and_true, Bool.and_eq_true, Bool.or_eq_true, decide_eq_true_eq]
  refine ⟨⟨⟨by omega, by omega⟩, ?_⟩, ?_⟩
  · by_cases c : v % 1099511627776 % 3 = 0
    · rw [if_pos (by omega), if_pos c]; exact lawVl_ok _
    · rw [if_neg (by omega), decide_eq_true_eq, if_neg c]
  · by_cases c : v % 1099511627776 % 3 = 2
    · exact .inl (by omega)
    · right; rw [if_neg c]
set_option maxRecDepth 100000 in
set_option maxHeartbeats 4000000 in
theorem a_lmsg (v seq : Int) (hv : -9223372036854775808 ≤ v ∧ v ≤ 9223372036854775807) (hq : -9223372036854775808 ≤ seq ∧ seq ≤ 9223372036854775807) : AFn Try.prog 31 [intA v, intA seq] (lawMsg v seq).av := by
  refine AFn_intro Try.func31 rfl Try.ntmps31 rfl (by simp) [_] rfl fun E hE => ?_
  have h0 := Int.emod_nonneg v (show (1099511627776 : Int) ≠ 0 by omega)
  have h1 := Int.emod_lt_of_pos v (show (0 : Int) < 1099511627776 by omega)
  have c1 := a_lplace v 1099511627776 (by omega) (by omega) hv
  have c2 := a_lplace seq 1099511627776 (by omega) (by omega) hq
  unfold lawMsg
  dsimp only
  generalize v % 1099511627776 = k at h0 h1 c1 ⊢
  have d1 := acall Try.func28 (c1) (by decide +kernel) (by decide +kernel)
  have d2 := acall Try.func28 (c2) (by decide +kernel) (by decide +kernel)
  have d3 := acall Try.func29 (a_lkey (k / 4) (by omega)) (by decide +kernel) (by decide +kernel)
  have d4 := acall Try.func56 (a_lval (k / 64) (by omega)) (by decide +kernel) (by decide +kernel)
  by_cases q0 : k % 3 = 0
  · have e1 : 1 + k % 3 = 1 := by omega
    rw [if_pos q0, if_neg (by omega)]
    refine wS ?_
    exact fin ⟨res_var rfl rfl rfl rfl, trivial⟩
  · have e1 : ¬ 1 + k % 3 = 1 := by omega
    rw [if_neg q0]
    by_cases q2 : k % 3 = 2
    · rw [if_pos q2]
      have e3 : 1 + k % 3 = 3 := by omega
      refine wS ?_
      exact fin ⟨res_var rfl rfl rfl rfl, trivial⟩
    · rw [if_neg q2]
      have e3 : ¬ 1 + k % 3 = 3 := by omega
      refine wS ?_
      exact fin ⟨res_var rfl rfl rfl rfl, trivial⟩
end Go.Proofs.Ytkpjkfjlpiidbaa

namespace Go.Proofs.Ytkpjkfjlpiidbaa
open Go Go.RowKit
set_option linter.unusedVariables false
set_option linter.unusedSimpArgs false
set_option maxRecDepth 100000

def msgStep (most : Int) (out : List Msg) (m : Msg) : List Msg := if bSum (bfAdd out m) ≤ most then bfAdd out m else out
def msgsF (l : List Int) (most : Int) : Nat → List Msg
  | 0 => []
  | j + 1 => msgStep most (msgsF l most j) (lawMsg (l.getD j 0) ((j + 1 : Nat) : Int))
def msgList (l : List Int) (most : Int) : List Msg := msgsF l most (min l.length 60)
theorem msgsF_bf (l : List Int) (most : Int) : ∀ j, Bf (msgsF l most j)
  | 0 => bf_nil
  | j + 1 => by
    unfold msgsF msgStep
    split
    · exact bf_add (msgsF_bf l most j) (lawMsg_ok _ _)
    · exact msgsF_bf l most j
theorem msgsF_len (l : List Int) (most : Int) : ∀ j, (msgsF l most j).length ≤ j
  | 0 => Nat.le_refl _
  | j + 1 => by
    have h1 := msgsF_len l most j
    have h2 := add_len (msgsF l most j) (lawMsg (l.getD j 0) ((j + 1 : Nat) : Int))
    unfold msgsF msgStep
    split <;> omega
theorem msgsF_sum (l : List Int) (most : Int) (h0 : 0 ≤ most) : ∀ j, bSum (msgsF l most j) ≤ most
  | 0 => h0
  | j + 1 => by
    unfold msgsF msgStep
    split
    · assumption
    · exact msgsF_sum l most h0 j
theorem msgList_bf (l : List Int) (most : Int) : Bf (msgList l most) := msgsF_bf l most _
theorem msgList_len (l : List Int) (most : Int) : (msgList l most).length ≤ 60 := Nat.le_trans (msgsF_len l most _) (Nat.min_le_right _ _)
theorem msgList_sum (l : List Int) (most : Int) (h0 : 0 ≤ most) : bSum (msgList l most) ≤ most := msgsF_sum l most h0 _
theorem msgList_end (l : List Int) (most : Int) (j : Nat) (h : (j = 60 ∧ j ≤ l.length) ∨ (j = l.length ∧ j ≤ 60)) : msgsF l most j = msgList l most := by
  unfold msgList
  congr 1
  omega
attribute [local irreducible] OpOK AWops AW CondB Go2 AFn thenA inBlockA noGotoA orderOk wantedA
set_option maxRecDepth 100000 in
set_option maxHeartbeats 8000000 in
theorem a_msgs (l : List Int) (most : Int) (hb : ∀ n ∈ l, -9223372036854775808 ≤ n ∧ n ≤ 9223372036854775807) : AFn Try.prog 35 [intsA l, intA most] (msgsA (msgList l most)) := by
  refine AFn_intro Try.func35 rfl Try.ntmps35 rfl (by simp) [_] rfl fun E hE => ?_
  refine wL ?_
  refine AW_go (Go2.nil 5 29 rfl) ?_
  refine AW_loopI (fun j : Nat => ⟨[(0, intsA l), (1, intA most), (5, msgsA (msgsF l most j)), (6, intA j)], []⟩) (fun j => j ≤ l.length ∧ j ≤ 60) (fun j => l.length - j) 0 ⟨Nat.zero_le _, by omega⟩ (by (refine Go2.sub ⟨?_, ?_, ?_⟩ <;> repeat' (first | exact True.intro | rfl | apply And.intro))) (fun j hj => ?_)
  obtain ⟨j1, j2⟩ := hj
  by_cases c : j < l.length
  · by_cases q : j < 60
    · have hx := hb l[j] (List.getElem_mem c)
      have hbf := msgsF_bf l most j
      have hlen := msgsF_len l most j
      have hs : msgsF l most (j + 1) = msgStep most (msgsF l most j) (lawMsg l[j] ((j + 1 : Nat) : Int)) := by
        rw [msgsF]
        rw [List.getD_eq_getElem?_getD, List.getElem?_eq_getElem c]
        rfl
      have hmo := lawMsg_ok l[j] ((j + 1 : Nat) : Int)
      have p1 := a_lmsg l[j] ((j + 1 : Nat) : Int) hx (by omega)
      generalize lawMsg l[j] ((j + 1 : Nat) : Int) = M at hs hmo p1
      have hal := add_len (msgsF l most j) M
      have p2 := a_ref06add (msgsF l most j) M hbf (Msg.spec hmo).2.2.1 (by omega)
      have p3 := a_ref06bytes (bfAdd (msgsF l most j) M) (by omega)
      unfold msgStep at hs
      generalize bfAdd (msgsF l most j) M = more at hs hal p2 p3
      have d1 := acall Try.func31 (p1) (by decide +kernel) (by decide +kernel)
      have d2 := acall Try.func58 (p2) (by decide +kernel) (by decide +kernel)
      have d3 := acall Try.func27 (p3) (by decide +kernel) (by decide +kernel)
      by_cases z : bSum more ≤ most
      · rw [if_pos z] at hs
        refine wL ?_
        refine ⟨j + 1, ⟨c, q⟩, by omega, ?_⟩
        rw [hs]
        (refine Go2.sub ⟨?_, ?_, ?_⟩ <;> repeat' (first | exact True.intro | rfl | apply And.intro))
      · rw [if_neg z] at hs
        refine wL ?_
        refine ⟨j + 1, ⟨c, q⟩, by omega, ?_⟩
        rw [hs]
        (refine Go2.sub ⟨?_, ?_, ?_⟩ <;> repeat' (first | exact True.intro | rfl | apply And.intro))
    · rw [← msgList_end l most j (.inl ⟨by omega, j1⟩)]
      refine wL ?_
      exact fin ⟨res_sl rfl, trivial⟩
  · rw [← msgList_end l most j (.inr ⟨by omega, j2⟩)]
    refine wL ?_
    exact fin ⟨res_sl rfl, trivial⟩
end Go.Proofs.Ytkpjkfjlpiidbaa

namespace Go.Proofs.Ytkpjkfjlpiidbaa
open Go Go.RowKit
set_option linter.unusedVariables false
set_option linter.unusedSimpArgs false
set_option maxRecDepth 100000

def entMsg (x : Int) : Msg := ⟨1, 0#64, lawKey (x % 1099511627776), lawVl (x % 1099511627776 / 16), 0#64⟩
theorem entMsg_ok (x : Int) : (entMsg x).ok = true := by
  unfold Msg.ok entMsg
  simp [lawKey_ok, lawVl_ok]
def entStep (most : Int) (out : List Ent) (x : Int) : List Ent := if eSum (lfPut out (entMsg x)) ≤ most then lfPut out (entMsg x) else out
def entsF (l : List Int) (most : Int) (j : Nat) : List Ent := (l.take j).foldl (entStep most) []
def entList (l : List Int) (most : Int) : List Ent := entsF l most 80
theorem entsF_snoc (l : List Int) (most : Int) (j : Nat) (h : j < l.length) : entsF l most (j + 1) = entStep most (entsF l most j) l[j] := by
  unfold entsF
  rw [← List.take_append_getElem h, List.foldl_append]
  rfl
theorem entStep_lf {most : Int} {out : List Ent} {x : Int} (h : Lf out) : Lf (entStep most out x) := by
  unfold entStep
  split
  · exact lf_put h (entMsg_ok x)
  · exact h
theorem entsF_lf (l : List Int) (most : Int) : ∀ j, Lf (entsF l most j) := by
  unfold entsF
  intro j
  have : ∀ (xs : List Int) (out : List Ent), Lf out → Lf (xs.foldl (entStep most) out) := by
    intro xs
    induction xs with
    | nil => intro out h; exact h
    | cons x xs ih => intro out h; exact ih _ (entStep_lf h)
  exact this _ _ lf_nil
theorem entsF_len (l : List Int) (most : Int) (j : Nat) : (entsF l most j).length ≤ j := by
  unfold entsF
  have : ∀ (xs : List Int) (out : List Ent), (xs.foldl (entStep most) out).length ≤ out.length + xs.length := by
    intro xs
    induction xs with
    | nil => intro out; simp
    | cons x xs ih =>
      intro out
      have h1 := ih (entStep most out x)
      have h2 : (entStep most out x).length ≤ out.length + 1 := by
        unfold entStep
        split
        · exact put_len _ _
        · omega
      simp only [List.foldl_cons, List.length_cons]
      omega
  have h := this (l.take j) []
  simp only [List.length_nil, List.length_take] at h
  omega
theorem entsF_sum (l : List Int) (most : Int) (h0 : 0 ≤ most) (j : Nat) : eSum (entsF l most j) ≤ most := by
  unfold entsF
  have : ∀ (xs : List Int) (out : List Ent), eSum out ≤ most → eSum (xs.foldl (entStep most) out) ≤ most := by
    intro xs
    induction xs with
    | nil => intro out h; exact h
    | cons x xs ih =>
      intro out h
      refine ih _ ?_
      unfold entStep
      split
      · assumption
      · exact h
  exact this _ _ h0
theorem entList_end (l : List Int) (most : Int) (j : Nat) (h : j = 80 ∨ (j = l.length ∧ j ≤ 80)) : entsF l most j = entList l most := by
  unfold entList entsF
  rcases h with h | ⟨h1, h2⟩
  · rw [h]
  · rw [List.take_of_length_le (by omega), List.take_of_length_le (by omega)]
theorem entList_lf (l : List Int) (most : Int) : Lf (entList l most) := entsF_lf l most 80
theorem entList_len (l : List Int) (most : Int) : (entList l most).length ≤ 80 := entsF_len l most 80
attribute [local irreducible] OpOK AWops AW CondB Go2 AFn thenA inBlockA noGotoA orderOk wantedA
set_option maxRecDepth 100000 in
set_option maxHeartbeats 8000000 in
theorem a_entries (l : List Int) (most : Int) (hb : ∀ n ∈ l, -9223372036854775808 ≤ n ∧ n ≤ 9223372036854775807) : AFn Try.prog 33 [intsA l, intA most] (entsA (entList l most)) := by
  refine AFn_intro Try.func33 rfl Try.ntmps33 rfl (by simp) [_] rfl fun E hE => ?_
  refine wL ?_
  refine AW_go (Go2.nil 5 26 rfl) ?_
  refine AW_loopI (fun j : Nat => ⟨[(0, intsA l), (1, intA most), (5, entsA (entsF l most j)), (6, intA j)], []⟩) (fun j => j ≤ l.length ∧ j ≤ 80) (fun j => l.length - j) 0 ⟨Nat.zero_le _, by omega⟩ (by (refine Go2.sub ⟨?_, ?_, ?_⟩ <;> repeat' (first | exact True.intro | rfl | apply And.intro))) (fun j hj => ?_)
  obtain ⟨j1, j2⟩ := hj
  by_cases c : j < l.length
  · by_cases q : j < 80
    · have hx := hb l[j] (List.getElem_mem c)
      have hs := entsF_snoc l most j c
      have hlf := entsF_lf l most j
      have hlen := entsF_len l most j
      have hlf2 := lf_put hlf (entMsg_ok l[j])
      have hlen2 := put_len (entsF l most j) (entMsg l[j])
      have hm := a_ref07put (entsF l most j) (entMsg l[j]) hlf (Msg.spec (entMsg_ok l[j])).2.2.1 (by omega)
      have hy := a_ref07bytes (lfPut (entsF l most j) (entMsg l[j])) hlf2.ok.bd (by omega)
      have k0 := Int.emod_nonneg l[j] (show (1099511627776 : Int) ≠ 0 by omega)
      have k1 := Int.emod_lt_of_pos l[j] (show (0 : Int) < 1099511627776 by omega)
      unfold entStep at hs
      unfold entMsg at hm hy hs
      have p1 := a_lplace l[j] 1099511627776 (by omega) (by omega) hx
      generalize l[j] % 1099511627776 = k at p1 k0 k1 hm hy hs
      have p2 := a_lkey k (by omega)
      have p3 := a_lval (k / 16) (by omega)
      generalize lfPut (entsF l most j) ⟨1, 0#64, lawKey k, lawVl (k / 16), 0#64⟩ = more at hm hy hs
      have d1 := acall Try.func28 (p1) (by decide +kernel) (by decide +kernel)
      have d2 := acall Try.func29 (p2) (by decide +kernel) (by decide +kernel)
      have d3 := acall Try.func56 (p3) (by decide +kernel) (by decide +kernel)
      have d4 := acall Try.func30 (hm) (by decide +kernel) (by decide +kernel)
      have d5 := acall Try.func40 (hy) (by decide +kernel) (by decide +kernel)
      by_cases z : eSum more ≤ most
      · rw [if_pos z] at hs
        refine wL ?_
        refine ⟨j + 1, ⟨c, q⟩, by omega, ?_⟩
        rw [hs]
        (refine Go2.sub ⟨?_, ?_, ?_⟩ <;> repeat' (first | exact True.intro | rfl | apply And.intro))
      · rw [if_neg z] at hs
        refine wL ?_
        refine ⟨j + 1, ⟨c, q⟩, by omega, ?_⟩
        rw [hs]
        (refine Go2.sub ⟨?_, ?_, ?_⟩ <;> repeat' (first | exact True.intro | rfl | apply And.intro))
    · rw [← entList_end l most j (.inl (by omega))]
      refine wL ?_
      exact fin ⟨res_sl rfl, trivial⟩
  · rw [← entList_end l most j (.inr ⟨by omega, j2⟩)]
    refine wL ?_
    exact fin ⟨res_sl rfl, trivial⟩
end Go.Proofs.Ytkpjkfjlpiidbaa

namespace Go.Proofs.Ytkpjkfjlpiidbaa
open Go Go.RowKit
set_option linter.unusedVariables false
set_option linter.unusedSimpArgs false
set_option maxRecDepth 100000

def innerN (p : List Int) (v : Int) (l : List Int) : Nd := ⟨false, [], kidsL v ((pivK (16 :: p) 3).length + 1), pivK (16 :: p) 3, msgList l 205⟩
def leafN (l : List Int) : Nd := ⟨true, entList l 248, [], [], []⟩
theorem res_varl {S : St} {a t g n : Nat} {fs ys : List AV} (ha : S.t a = some (.ptr g 0 [])) (hg : S.h g = some (.var (.agg n fs))) (hs : tabT.sa t = some (true, n)) (hw : ∀ H, WkL H fs ys) : Res1 Try.prog S (.cell a t) (.agg n ys) := ⟨g, .agg n fs, ha, hg, tabT.tyOf hs, Wk.agg (hw _)⟩
def innerM (v : Int) (P : List Key) (S : List Msg) : Nat → St
  | 0 => ⟨[(6, .ptr 6 0 []), (7, .ptr 7 0 []), (8, intA (1 + v % 200)), (9, intA ((0 : Nat) : Int))], [(6, .var (nodeA false nilA nilA nilA nilA)), (7, .var (nodeA false nilA nilA (keysA P) (msgsA S)))]⟩
  | j + 1 => ⟨[(6, .ptr 6 0 []), (7, .ptr 7 0 []), (8, intA (1 + v % 200)), (9, intA ((j + 1 : Nat) : Int))], [(6, .var (nodeA false nilA nilA nilA nilA)), (7, .var (nodeA false nilA (.sl (some 34) 1 ((kidsL v (j + 1)).map intA)) (keysA P) (msgsA S))), (34, .tail 3 1 (kidsL v (j + 1)).length)]⟩
attribute [local irreducible] OpOK AWops AW CondB Go2 AFn thenA inBlockA noGotoA orderOk wantedA
set_option maxRecDepth 100000 in
set_option maxHeartbeats 4000000 in
theorem a_inner (p : List Int) (v : Int) (l : List Int) (hl : p.length ≤ 17592186044400) (hb : ∀ n ∈ p, -9223372036854775808 ≤ n ∧ n ≤ 9223372036854775807) (hv : -9223372036854775808 ≤ v ∧ v ≤ 9223372036854775807) (hlb : ∀ n ∈ l, -9223372036854775808 ≤ n ∧ n ≤ 9223372036854775807) :
    AFn Try.prog 10 [intsA p, intA v, intsA l] (innerN p v l).av := by
  unfold innerN
  refine AFn_intro Try.func10 rfl Try.ntmps10 rfl (by simp) [_] rfl fun E hE => ?_
  have hp := a_pivots (16 :: p) 3 (by simp; omega) (fun n hn => by rcases List.mem_cons.1 hn with rfl | hn; omega; exact hb n hn)
  have hle := pivK_le (16 :: p) 3 (by omega)
  generalize pivK (16 :: p) 3 = P at hp hle ⊢
  have cm := a_msgs l 205 hlb
  generalize msgList l 205 = S at cm ⊢
  have c1 := acall Try.func34 (hp) (by decide +kernel) (by decide +kernel)
  have c2 := acall Try.func35 (cm) (by decide +kernel) (by decide +kernel)
  have c3 := acall Try.func28 (a_lplace v 200 (by omega) (by omega) hv) (by decide +kernel) (by decide +kernel)
  refine wL ?_
  refine AW_loopI (innerM v P S) (fun j => j ≤ P.length + 1) (fun j => P.length + 1 - j) 0 (Nat.zero_le _) (by unfold innerM; (refine Go2.sub ⟨?_, ?_, ?_⟩ <;> repeat' (first | exact True.intro | rfl | apply And.intro))) (fun j hj => ?_)
  have hs := kidsL_succ v j
  have hkl := kidsL_len v j
  by_cases hlt : j ≤ P.length
  · cases j with
    | zero =>
      unfold innerM
      refine wL ?_
      refine ⟨1, by omega, by omega, ?_⟩
      (refine Go2.sub ⟨?_, ?_, ?_⟩ <;> repeat' (first | exact True.intro | rfl | apply And.intro))
    | succ j =>
      unfold innerM
      refine wL ?_
      refine Was 33 (AV.sl (some 33) 1 (List.map intA [1 + v % 200 + 7 * ((j + 1 : Nat) : Int)])) rfl ?_
      refine wL ?_
      refine ⟨j + 2, by omega, by omega, ?_⟩
      (refine Go2.sub ⟨?_, ?_, ?_⟩ <;> repeat' (first | exact True.intro | rfl | apply And.intro))
      all_goals (rw [hs]; rfl)
  · have : j = P.length + 1 := by omega
    subst this
    unfold innerM
    refine wL ?_
    exact fin ⟨res_varl rfl rfl rfl (fun _ => .cons (Wk.data rfl) (.cons Wk.nil (.cons Wk.tok (.cons (Wk.data rfl) (.cons (Wk.data rfl) .nil))))), trivial⟩
set_option maxRecDepth 100000 in
set_option maxHeartbeats 4000000 in
theorem a_lleaf (l : List Int) (hlb : ∀ n ∈ l, -9223372036854775808 ≤ n ∧ n ≤ 9223372036854775807) : AFn Try.prog 9 [intsA l] (leafN l).av := by
  unfold leafN
  refine AFn_intro Try.func9 rfl Try.ntmps9 rfl (by simp) [_] rfl fun E hE => ?_
  have ce := a_entries l 248 hlb
  generalize entList l 248 = L at ce ⊢
  have c1 := acall Try.func33 (ce) (by decide +kernel) (by decide +kernel)
  refine wL ?_
  exact fin ⟨res_varl rfl rfl rfl (fun _ => .cons (Wk.data rfl) (.cons (Wk.data rfl) (.cons Wk.nil (.cons Wk.nil (.cons Wk.nil .nil))))), trivial⟩
end Go.Proofs.Ytkpjkfjlpiidbaa

namespace Go.Proofs.Ytkpjkfjlpiidbaa
open Go Go.RowKit
set_option linter.unusedVariables false
set_option linter.unusedSimpArgs false
set_option maxRecDepth 100000

attribute [local irreducible] OpOK AWops AW CondB Go2 AFn thenA inBlockA noGotoA orderOk wantedA
set_option maxRecDepth 100000 in
set_option maxHeartbeats 4000000 in
theorem a_eqInts (a b : List Int) (h1 : a.length ≤ 1000000000) : AFn Try.prog 42 [intsA a, intsA b] (boolA (decide (a = b))) := by
  refine AFn_intro Try.func42 rfl Try.ntmps42 rfl (by simp) [_] rfl fun E hE => ?_
  by_cases hl : a.length = b.length
  · refine wL ?_
    refine AW_loopI (fun j : Nat => ⟨[(0, intsA a), (1, intsA b), (12, intA a.length), (13, intA j)], []⟩) (fun j => j ≤ a.length ∧ a.take j = b.take j) (fun j => a.length - j) 0 ⟨Nat.zero_le _, rfl⟩ (by (refine Go2.sub ⟨?_, ?_, ?_⟩ <;> repeat' (first | exact True.intro | rfl | apply And.intro))) (fun j hj => ?_)
    obtain ⟨hj, hJ⟩ := hj
    by_cases hlt : j < a.length
    · have hlt' : j < b.length := by omega
      by_cases h : a[j] = b[j]
      · have h' : ¬ a[j] ≠ b[j] := fun k => k h
        refine wL ?_
        refine ⟨j + 1, ⟨hlt, same_step a b j hlt hlt' h hJ⟩, by omega, ?_⟩
        (refine Go2.sub ⟨?_, ?_, ?_⟩ <;> repeat' (first | exact True.intro | rfl | apply And.intro))
      · have h' : a[j] ≠ b[j] := h
        rw [same_no a b j hlt hlt' h]
        refine wL ?_
        exact fin ⟨res_of rfl rfl rfl, trivial⟩
    · have : j = a.length := by omega
      subst this
      rw [List.take_length, hl, List.take_length] at hJ
      rw [decide_eq_true hJ]
      refine wL ?_
      exact fin ⟨res_of rfl rfl rfl, trivial⟩
  · rw [show decide (a = b) = false from decide_eq_false fun k => hl (by rw [k])]
    refine wL ?_
    exact fin ⟨res_of rfl rfl rfl, trivial⟩
set_option maxRecDepth 100000 in
set_option maxHeartbeats 4000000 in
theorem a_eqKeys (a b : List Key) (h1 : a.length ≤ 1000000000) : AFn Try.prog 43 [keysA a, keysA b] (boolA (decide (a = b))) := by
  refine AFn_intro Try.func43 rfl Try.ntmps43 rfl (by simp) [_] rfl fun E hE => ?_
  by_cases hl : a.length = b.length
  · refine wL ?_
    refine AW_loopI (fun j : Nat => ⟨[(0, keysA a), (1, keysA b), (12, intA a.length), (13, intA j)], []⟩) (fun j => j ≤ a.length ∧ a.take j = b.take j) (fun j => a.length - j) 0 ⟨Nat.zero_le _, rfl⟩ (by (refine Go2.sub ⟨?_, ?_, ?_⟩ <;> repeat' (first | exact True.intro | rfl | apply And.intro))) (fun j hj => ?_)
    obtain ⟨hj, hJ⟩ := hj
    by_cases hlt : j < a.length
    · have hlt' : j < b.length := by omega
      by_cases h : a[j] = b[j]
      · have h' : ¬ a[j] ≠ b[j] := fun k => k h
        refine wL ?_
        refine ⟨j + 1, ⟨hlt, same_step a b j hlt hlt' h hJ⟩, by omega, ?_⟩
        (refine Go2.sub ⟨?_, ?_, ?_⟩ <;> repeat' (first | exact True.intro | rfl | apply And.intro))
      · have h' : a[j] ≠ b[j] := h
        rw [same_no a b j hlt hlt' h]
        refine wL ?_
        exact fin ⟨res_of rfl rfl rfl, trivial⟩
    · have : j = a.length := by omega
      subst this
      rw [List.take_length, hl, List.take_length] at hJ
      rw [decide_eq_true hJ]
      refine wL ?_
      exact fin ⟨res_of rfl rfl rfl, trivial⟩
  · rw [show decide (a = b) = false from decide_eq_false fun k => hl (by rw [k])]
    refine wL ?_
    exact fin ⟨res_of rfl rfl rfl, trivial⟩
set_option maxRecDepth 100000 in
set_option maxHeartbeats 4000000 in
theorem a_eqEnts (a b : List Ent) (h1 : a.length ≤ 1000000000) : AFn Try.prog 41 [entsA a, entsA b] (boolA (decide (a = b))) := by
  refine AFn_intro Try.func41 rfl Try.ntmps41 rfl (by simp) [_] rfl fun E hE => ?_
  by_cases hl : a.length = b.length
  · refine wL ?_
    refine AW_loopI (fun j : Nat => ⟨[(0, entsA a), (1, entsA b), (12, intA a.length), (13, intA j)], []⟩) (fun j => j ≤ a.length ∧ a.take j = b.take j) (fun j => a.length - j) 0 ⟨Nat.zero_le _, rfl⟩ (by (refine Go2.sub ⟨?_, ?_, ?_⟩ <;> repeat' (first | exact True.intro | rfl | apply And.intro))) (fun j hj => ?_)
    obtain ⟨hj, hJ⟩ := hj
    by_cases hlt : j < a.length
    · have hlt' : j < b.length := by omega
      by_cases h : a[j] = b[j]
      · have h' : ¬ a[j] ≠ b[j] := fun k => k h
        refine wL ?_
        refine ⟨j + 1, ⟨hlt, same_step a b j hlt hlt' h hJ⟩, by omega, ?_⟩
        (refine Go2.sub ⟨?_, ?_, ?_⟩ <;> repeat' (first | exact True.intro | rfl | apply And.intro))
      · have h' : a[j] ≠ b[j] := h
        rw [same_no a b j hlt hlt' h]
        refine wL ?_
        exact fin ⟨res_of rfl rfl rfl, trivial⟩
    · have : j = a.length := by omega
      subst this
      rw [List.take_length, hl, List.take_length] at hJ
      rw [decide_eq_true hJ]
      refine wL ?_
      exact fin ⟨res_of rfl rfl rfl, trivial⟩
  · rw [show decide (a = b) = false from decide_eq_false fun k => hl (by rw [k])]
    refine wL ?_
    exact fin ⟨res_of rfl rfl rfl, trivial⟩
set_option maxRecDepth 100000 in
set_option maxHeartbeats 4000000 in
theorem a_eqMsgs (a b : List Msg) (h1 : a.length ≤ 1000000000) : AFn Try.prog 44 [msgsA a, msgsA b] (boolA (decide (a = b))) := by
  refine AFn_intro Try.func44 rfl Try.ntmps44 rfl (by simp) [_] rfl fun E hE => ?_
  by_cases hl : a.length = b.length
  · refine wL ?_
    refine AW_loopI (fun j : Nat => ⟨[(0, msgsA a), (1, msgsA b), (12, intA a.length), (13, intA j)], []⟩) (fun j => j ≤ a.length ∧ a.take j = b.take j) (fun j => a.length - j) 0 ⟨Nat.zero_le _, rfl⟩ (by (refine Go2.sub ⟨?_, ?_, ?_⟩ <;> repeat' (first | exact True.intro | rfl | apply And.intro))) (fun j hj => ?_)
    obtain ⟨hj, hJ⟩ := hj
    by_cases hlt : j < a.length
    · have hlt' : j < b.length := by omega
      by_cases h : a[j] = b[j]
      · have h' : ¬ a[j] ≠ b[j] := fun k => k h
        refine wL ?_
        refine ⟨j + 1, ⟨hlt, same_step a b j hlt hlt' h hJ⟩, by omega, ?_⟩
        (refine Go2.sub ⟨?_, ?_, ?_⟩ <;> repeat' (first | exact True.intro | rfl | apply And.intro))
      · have h' : a[j] ≠ b[j] := h
        rw [same_no a b j hlt hlt' h]
        refine wL ?_
        exact fin ⟨res_of rfl rfl rfl, trivial⟩
    · have : j = a.length := by omega
      subst this
      rw [List.take_length, hl, List.take_length] at hJ
      rw [decide_eq_true hJ]
      refine wL ?_
      exact fin ⟨res_of rfl rfl rfl, trivial⟩
  · rw [show decide (a = b) = false from decide_eq_false fun k => hl (by rw [k])]
    refine wL ?_
    exact fin ⟨res_of rfl rfl rfl, trivial⟩
set_option maxRecDepth 100000 in
set_option maxHeartbeats 4000000 in
theorem a_sameEnts (a b : List Ent) (h1 : a.length ≤ 1000000000) : AFn Try.prog 32 [entsA a, entsA b] (boolA (decide (a = b))) := by
  refine AFn_intro Try.func32 rfl Try.ntmps32 rfl (by simp) [_] rfl fun E hE => ?_
  by_cases hl : a.length = b.length
  · refine wL ?_
    refine AW_loopI (fun j : Nat => ⟨[(0, entsA a), (1, entsA b), (5, intA j)], []⟩) (fun j => j ≤ a.length ∧ a.take j = b.take j) (fun j => a.length - j) 0 ⟨Nat.zero_le _, rfl⟩ (by (refine Go2.sub ⟨?_, ?_, ?_⟩ <;> repeat' (first | exact True.intro | rfl | apply And.intro))) (fun j hj => ?_)
    obtain ⟨hj, hJ⟩ := hj
    by_cases hlt : j < a.length
    · have hlt' : j < b.length := by omega
      by_cases h : a[j] = b[j]
      · have h' : ¬ a[j] ≠ b[j] := fun k => k h
        refine wL ?_
        refine ⟨j + 1, ⟨hlt, same_step a b j hlt hlt' h hJ⟩, by omega, ?_⟩
        (refine Go2.sub ⟨?_, ?_, ?_⟩ <;> repeat' (first | exact True.intro | rfl | apply And.intro))
      · have h' : a[j] ≠ b[j] := h
        rw [same_no a b j hlt hlt' h]
        refine wL ?_
        exact fin ⟨res_of rfl rfl rfl, trivial⟩
    · have : j = a.length := by omega
      subst this
      rw [List.take_length, hl, List.take_length] at hJ
      rw [decide_eq_true hJ]
      refine wL ?_
      exact fin ⟨res_of rfl rfl rfl, trivial⟩
  · rw [show decide (a = b) = false from decide_eq_false fun k => hl (by rw [k])]
    refine wL ?_
    exact fin ⟨res_of rfl rfl rfl, trivial⟩
set_option maxRecDepth 100000 in
set_option maxHeartbeats 4000000 in
theorem a_sameMsgs (a b : List Msg) (h1 : a.length ≤ 1000000000) : AFn Try.prog 47 [msgsA a, msgsA b] (boolA (decide (a = b))) := by
  refine AFn_intro Try.func47 rfl Try.ntmps47 rfl (by simp) [_] rfl fun E hE => ?_
  by_cases hl : a.length = b.length
  · refine wL ?_
    refine AW_loopI (fun j : Nat => ⟨[(0, msgsA a), (1, msgsA b), (5, intA j)], []⟩) (fun j => j ≤ a.length ∧ a.take j = b.take j) (fun j => a.length - j) 0 ⟨Nat.zero_le _, rfl⟩ (by (refine Go2.sub ⟨?_, ?_, ?_⟩ <;> repeat' (first | exact True.intro | rfl | apply And.intro))) (fun j hj => ?_)
    obtain ⟨hj, hJ⟩ := hj
    by_cases hlt : j < a.length
    · have hlt' : j < b.length := by omega
      by_cases h : a[j] = b[j]
      · have h' : ¬ a[j] ≠ b[j] := fun k => k h
        refine wL ?_
        refine ⟨j + 1, ⟨hlt, same_step a b j hlt hlt' h hJ⟩, by omega, ?_⟩
        (refine Go2.sub ⟨?_, ?_, ?_⟩ <;> repeat' (first | exact True.intro | rfl | apply And.intro))
      · have h' : a[j] ≠ b[j] := h
        rw [same_no a b j hlt hlt' h]
        refine wL ?_
        exact fin ⟨res_of rfl rfl rfl, trivial⟩
    · have : j = a.length := by omega
      subst this
      rw [List.take_length, hl, List.take_length] at hJ
      rw [decide_eq_true hJ]
      refine wL ?_
      exact fin ⟨res_of rfl rfl rfl, trivial⟩
  · rw [show decide (a = b) = false from decide_eq_false fun k => hl (by rw [k])]
    refine wL ?_
    exact fin ⟨res_of rfl rfl rfl, trivial⟩
end Go.Proofs.Ytkpjkfjlpiidbaa

namespace Go.Proofs.Ytkpjkfjlpiidbaa
open Go Go.RowKit
set_option linter.unusedVariables false
set_option linter.unusedSimpArgs false
set_option maxRecDepth 100000

theorem run_method {P : Program} {t : TypeId} {v : Value} {name : String} {f : FuncId} {F : Array Field} (n : Nat) (h : (P.info? t).bind (fun i => (i.methods.find? (·.name == name)).map fun m => (m.path.toList.length, m.func)) = some (0, some (f, false))) (hu : P.underlying t = some (.struct F)) (w : World) : (Go.method (n + 1) t v name).run P w = .ok (f, v) w := by
  cases hi : P.info? t with
  | none => rw [hi] at h; cases h
  | some i =>
    rw [hi] at h
    simp only [Option.bind_some] at h
    cases hm : i.methods.find? (·.name == name) with
    | none => rw [hm] at h; cases h
    | some m =>
      rw [hm] at h
      simp only [Option.map_some, Option.some.injEq, Prod.mk.injEq] at h
      obtain ⟨h1, h2⟩ := h
      have h3 : m.path.toList = [] := List.eq_nil_of_length_eq_zero h1
      unfold Go.method
      simp [typeInfo, hi, hm, h2, h3, Go.follow, Go.receiverAt, run_underlying hu, Go.Place.get]
section
variable {P : Program} {E : Env} {nt : Nat} {ops : Array Oper} {T : Nat → Option AV} {H : Hp} {d : Option Nat} {ty : TypeId} {pos : String} {af : Array Edge} {gd : Option (Nat × Bool)}
theorem ok_mkifc {t : TypeId} {x : Operand} {y : AV} {F : Array Field} (hu : P.underlying t = some (.struct F)) (hd : dOk nt d = true) (hx : evalO T x = some y) (hnt : notTup y = true) : OpOK P E nt ops ⟨d, .makeInterface t x, ty, pos, af, gd⟩ T H [] ⟨.ifc t y, []⟩ :=
  ok_val hd fun B T' H' a w r ht hh => by
    have h1 := r.eval ((ht x (by simp [Op.operands])).trans hx)
    rw [Rdv_not (notTup_ne hnt)] at h1
    obtain ⟨c, h2, h3⟩ := h1
    refine ⟨.iface t (a.eval x), by simp [execOp, Instr.makeInterface, run_underlying hu], ?_⟩
    rw [Rdv_not (by simp)]
    exact ⟨[_], by simp only [Rd]; exact ⟨c, h2, rfl⟩, by rw [h3]; rfl⟩
/-- of that type -/
theorem ok_assert_y {t xt : TypeId} {x : Operand} {y : AV} {F : Array Field} (hu : P.underlying t = some (.struct F)) (hd : dOk nt d = true) (hx : evalO T x = some (.ifc t y)) (hnt : notTup y = true) : OpOK P E nt ops ⟨d, .typeAssert x xt t true, ty, pos, af, gd⟩ T H [] ⟨.tup [y, boolA true], []⟩ :=
  ok_val hd fun B T' H' a w r ht hh => by
    have h1 := Rdv_one (by simp) (r.eval ((ht x (by simp [Op.operands])).trans hx)) rfl
    simp only [Rd] at h1
    obtain ⟨c, h2, h3⟩ := h1
    injection h3 with h3
    refine ⟨.tuple #[pack y c, .bool true], by simp [execOp, h3, Instr.typeAssert, run_underlying hu], ?_⟩
    rw [Rdv_tup]
    refine ⟨[pack y c, .bool true], rfl, ?_⟩
    simp only [Rdp]
    exact ⟨c, [.bool true], rfl, h2, [.bool true], [], rfl, (rd_v rfl).2 rfl, rfl⟩
def isAggV : Value → Bool
  | .agg _ => true
  | _ => false
/-- of another one -/
theorem ok_assert_n {t s xt : TypeId} {x : Operand} {y : AV} {n : Nat} {fs : List AV} {F : Array Field} (hu : P.underlying t = some (.struct F)) (hd : dOk nt d = true) (hx : evalO T x = some (.ifc s y)) (hne : Nat.beq s t = false) (hz : ZeroOk P t (.agg n fs)) (hzv : ((P.info? t).bind (·.zero)).map isAggV = some true) : OpOK P E nt ops ⟨d, .typeAssert x xt t true, ty, pos, af, gd⟩ T H [] ⟨.tup [.agg n fs, boolA false], []⟩ :=
  ok_val hd fun B T' H' a w r ht hh => by
    have h1 := Rdv_one (by simp) (r.eval ((ht x (by simp [Op.operands])).trans hx)) rfl
    simp only [Rd] at h1
    obtain ⟨c, h2, h3⟩ := h1
    injection h3 with h3
    obtain ⟨i, zv, z1, z2, z3⟩ := hz
    have hst : ¬ s = t := fun e => by subst e; simp at hne
    have hzr := Rd_free (B := B) (H := H') _ (z3 (unst E B H') w)
    refine ⟨.tuple #[zv, .bool false], by simp [execOp, h3, Instr.typeAssert, run_underlying hu, hst, zeroValue, typeInfo, z1, z2], ?_⟩
    rw [Rdv_tup]
    refine ⟨[zv, .bool false], rfl, ?_⟩
    simp only [Rdp]
    refine ⟨zv.cells.toList, [.bool false], ?_, hzr, [.bool false], [], rfl, (rd_v rfl).2 rfl, rfl⟩
    rw [z1] at hzv
    simp only [Option.bind_some, z2, Option.map_some, Option.some.injEq] at hzv
    cases zv <;> first | rfl | cases hzv
theorem ok_invoke {f : FuncId} {fn : Func} {t : TypeId} {x : Operand} {name : String} {l : List Operand} {ats : Array TypeId} {v y : AV} {xs ys : List AV} {F : Array Field} (hd : dOk nt d = true) (hf : P.funcs[f]? = some fn) (hb : fn.body.isSome = true) (hnm : (fn.name == "runtime.NumGoroutine") = false)
    (hu : P.underlying t = some (.struct F)) (hm : (P.info? t).bind (fun i => (i.methods.find? (·.name == name)).map fun m => (m.path.toList.length, m.func)) = some (0, some (f, false))) (hxf : evalO T x = some (.ifc t v)) (hvd : dataA v = true) (hx : l.map (evalO T) = xs.map some) (hc : AFn P f (v :: ys) y) (hw : ∀ H', WkL H' xs ys) (hnt : xs.all notTup = true) :
    OpOK P E nt ops ⟨d, .call { callee := .invoke x name, args := l.toArray, argTypes := ats }, ty, pos, af, gd⟩ T H [] ⟨y, []⟩ := by
  intro T' H' ht _ _ B a w r K Q hK
  have hxs := args_rdp r l xs (map_agree hx (fun y hy => agree_op ht (by simp [Op.operands, Call.operands]; exact .inr hy))) (fun z hz => notTup_ne (List.all_eq_true.1 hnt z hz))
  have hys := (hw H').rdp hxs
  have hfv := Rdv_one (by simp) (r.eval ((agree_op ht (x := x) (by simp [Op.operands, Call.operands])).trans hxf)) rfl
  simp only [Rd] at hfv
  obtain ⟨c, e1, e2⟩ := hfv
  injection e2 with e2
  have hall : Rdp (unst E B H') w (v :: ys) B0 H0 (pack v c :: l.map a.eval) := by
    simp only [Rdp]
    exact ⟨c, _, rfl, Rd_data v hvd e1, hys⟩
  have h2 := hc _ w _ hall
  unfold Oper.wp
  have he : (execOp a.eval ⟨d, .call { callee := .invoke x name, args := l.toArray, argTypes := ats }, ty, pos, af, gd⟩).run P w = .ok (.enter f (pack v c :: l.map a.eval).toArray) w := by
    have hb' : fn.body ≠ none := by cases h : fn.body <;> simp_all
    have hn' : fn.name ≠ "runtime.NumGoroutine" := by simpa using hnm
    have hmr := run_method (v := pack v c) (P.types.size + Made.depth - 1) hm hu w
    rw [show P.types.size + Made.depth - 1 + 1 = P.types.size + Made.depth from by simp [Made.depth]] at hmr
    have ha : (pack v c :: l.map a.eval).toArray = #[pack v c] ++ (l.toArray.map a.eval) := by apply Array.ext'; simp
    rw [ha]
    simp [execOp, resolve, e2, invoke, callMethod, hmr, callFunc, hf, hn', hb']
    exact List.take_of_length_le (by simp)
  rw [he]
  refine Calls.mono h2 ?_
  rintro e w' ⟨u, rfl, h3, h4⟩
  exact hK B _ w' ((r.ext h4).put hd (Rdv_free (Rdv_sub (fun b o h => ⟨r.unst_lt h, h⟩) h3)))
end
section
variable {E : Env} {nt : Nat} {ops : Array Oper} {T : Nat → Option AV} {H : Hp} {d : Option Nat} {ty : TypeId} {pos : String} {af : Array Edge} {gd : Option (Nat × Bool)}
noncomputable def isStructB (t : TypeId) : Bool := match Try.prog.underlying t with
  | some (.struct _) => true
  | _ => false
theorem isStruct_eq {t : TypeId} (h : isStructB t = true) : ∃ F, Try.prog.underlying t = some (.struct F) := by
  unfold isStructB at h
  split at h
  · rename_i F e; exact ⟨F, e⟩
  · cases h
theorem o_mkifc {t : TypeId} {x : Operand} {y : AV} (hd : dOk nt d = true) (hx : evalO T x = some y) (hnt : notTup y = true) (hu : isStructB t = true) : OpOK Try.prog E nt ops ⟨d, .makeInterface t x, ty, pos, af, gd⟩ T H [] ⟨.ifc t y, []⟩ := by
  obtain ⟨F, hF⟩ := isStruct_eq hu
  exact ok_mkifc hF hd hx hnt
theorem o_asy {t xt : TypeId} {x : Operand} {y : AV} (hd : dOk nt d = true) (hx : evalO T x = some (.ifc t y)) (hnt : notTup y = true) (hu : isStructB t = true) : OpOK Try.prog E nt ops ⟨d, .typeAssert x xt t true, ty, pos, af, gd⟩ T H [] ⟨.tup [y, boolA true], []⟩ := by
  obtain ⟨F, hF⟩ := isStruct_eq hu
  exact ok_assert_y hF hd hx hnt
theorem o_asn {t s xt : TypeId} {x : Operand} {y : AV} {n : Nat} {fs : List AV} (hd : dOk nt d = true) (hx : evalO T x = some (.ifc s y)) (hne : Nat.beq s t = false) (hz : zeroT t = some (.agg n fs)) (hu : isStructB t = true) (hzv : ((Try.prog.info? t).bind (·.zero)).map isAggV = some true) : OpOK Try.prog E nt ops ⟨d, .typeAssert x xt t true, ty, pos, af, gd⟩ T H [] ⟨.tup [.agg n fs, boolA false], []⟩ := by
  obtain ⟨F, hF⟩ := isStruct_eq hu
  exact ok_assert_n hF hd hx hne (zeroT_ok hz) hzv
/-- a method by name: the function that stands for it -/
def MCall (t : TypeId) (name : String) (args : List AV) (r : AV) : Prop := ∃ f fn F, Try.prog.funcs[f]? = some fn ∧ fn.body.isSome = true ∧ (fn.name == "runtime.NumGoroutine") = false ∧ Try.prog.underlying t = some (.struct F) ∧ (Try.prog.info? t).bind (fun i => (i.methods.find? (·.name == name)).map fun m => (m.path.toList.length, m.func)) = some (0, some (f, false)) ∧ AFn Try.prog f args r
theorem mcall {t : TypeId} {name : String} {f : FuncId} {fn : Func} {args : List AV} {r : AV} (hf : Try.prog.funcs[f]? = some fn) (hc : AFn Try.prog f args r) (hb : fn.body.isSome = true) (hn : (fn.name == "runtime.NumGoroutine") = false) (hu : isStructB t = true) (hm : (Try.prog.info? t).bind (fun i => (i.methods.find? (·.name == name)).map fun m => (m.path.toList.length, m.func)) = some (0, some (f, false))) : MCall t name args r := by
  obtain ⟨F, hF⟩ := isStruct_eq hu
  exact ⟨f, fn, F, hf, hb, hn, hF, hm, hc⟩
theorem o_minv {t : TypeId} {x : Operand} {name : String} {l : List Operand} {ats : Array TypeId} {v y : AV} {xs ys : List AV} (hd : dOk nt d = true) (hxf : evalO T x = some (.ifc t v)) (hvd : dataA v = true) (hx : argsA T l = some xs) (hw : weakA xs = some ys) (hnt : xs.all notTup = true) (hc : MCall t name (v :: ys) y) :
    OpOK Try.prog E nt ops ⟨d, .call { callee := .invoke x name, args := l.toArray, argTypes := ats }, ty, pos, af, gd⟩ T H [] ⟨y, []⟩ := by
  obtain ⟨f, fn, F, h1, h2, h3, h4, h5, h6⟩ := hc
  exact ok_invoke hd h1 h2 h3 h4 h5 hxf hvd (argsA_map hx) h6 (fun _ => weakA_wkl _ _ hw) hnt
end
end Go.Proofs.Ytkpjkfjlpiidbaa

namespace Go.Proofs.Ytkpjkfjlpiidbaa
open Go Go.RowKit
set_option linter.unusedVariables false
set_option linter.unusedSimpArgs false
set_option maxRecDepth 100000

structure Nd.Sm (n : Nd) : Prop where
  es : n.es.length ≤ 100000000
  ks : n.ks.length ≤ 100000000
  ps : n.ps.length ≤ 100000000
  ms : n.ms.length ≤ 100000000
def Nd.kind (n : Nd) : TypeId := if n.leaf = true then 66 else 62
attribute [local irreducible] OpOK AWops AW CondB Go2 AFn thenA inBlockA noGotoA orderOk wantedA
set_option maxRecDepth 100000 in
set_option maxHeartbeats 4000000 in
theorem a_leafright (n : Nd) (h : n.Sm) : AFn Try.prog 105 [n.av] (boolA (leafOk keyCmp n)) := by
  obtain ⟨lf, es, ks, ps, ms⟩ := n
  dsimp only [Nd.av]
  refine AFn_intro Try.func105 rfl Try.ntmps105 rfl (by simp) [_] rfl fun E hE => ?_
  obtain ⟨h1, h2, h3, h4⟩ := h
  unfold leafOk
  dsimp only at h1 h2 h3 h4 ⊢
  have c1 := a_leafcheck es h1
  cases q : entsOkB keyCmp es with
  | false =>
    rw [q] at c1
    have d1 := acall Try.func107 (c1) (by decide +kernel) (by decide +kernel)
    refine wI ?_
    exact fin ⟨res_of rfl rfl rfl, trivial⟩
  | true =>
    rw [q] at c1
    have d1 := acall Try.func107 (c1) (by decide +kernel) (by decide +kernel)
    by_cases c : ks.length + ps.length + ms.length = 0
    · rw [decide_eq_true c]
      refine wI ?_
      exact fin ⟨res_yes rfl (by omega), trivial⟩
    · rw [decide_eq_false c]
      refine wI ?_
      exact fin ⟨res_no rfl (by omega), trivial⟩
set_option maxRecDepth 100000 in
set_option maxHeartbeats 4000000 in
theorem a_innerright (n : Nd) (h : n.Sm) : AFn Try.prog 99 [n.av] (boolA (innerOk keyCmp n)) := by
  obtain ⟨lf, es, ks, ps, ms⟩ := n
  dsimp only [Nd.av]
  refine AFn_intro Try.func99 rfl Try.ntmps99 rfl (by simp) [_] rfl fun E hE => ?_
  obtain ⟨h1, h2, h3, h4⟩ := h
  unfold innerOk
  dsimp only at h1 h2 h3 h4 ⊢
  have c1 := a_fancheck ks ps
  have c2 := a_bufcheck ms h4
  by_cases c : es.length = 0
  · rw [decide_eq_true c]
    cases q : fanOkBy keyCmp ks ps with
    | false =>
      rw [q] at c1
      have d1 := acall Try.func100 (c1) (by decide +kernel) (by decide +kernel)
      refine wI ?_
      exact fin ⟨res_of rfl rfl rfl, trivial⟩
    | true =>
      rw [q] at c1
      have d1 := acall Try.func100 (c1) (by decide +kernel) (by decide +kernel)
      have d2 := acall Try.func101 (c2) (by decide +kernel) (by decide +kernel)
      refine wI ?_
      exact fin ⟨res_of rfl rfl rfl, trivial⟩
  · rw [decide_eq_false c]
    refine wI ?_
    exact fin ⟨res_of rfl rfl rfl, trivial⟩
set_option maxRecDepth 100000 in
set_option maxHeartbeats 4000000 in
theorem a_leafbytesM (n : Nd) (h : n.Sm) (hb : EBd n.es) : AFn Try.prog 104 [n.av] (intA (eSum n.es)) := by
  refine AFn_intro Try.func104 rfl Try.ntmps104 rfl (by simp) [_] rfl fun E hE => ?_
  have d1 := acall Try.func106 (a_leafbytes n.es hb h.es) (by decide +kernel) (by decide +kernel)
  refine wI ?_
  exact fin ⟨res_of rfl rfl rfl, trivial⟩
set_option maxRecDepth 100000 in
set_option maxHeartbeats 4000000 in
theorem a_innerbytesM (n : Nd) (h : n.Sm) : AFn Try.prog 98 [n.av] (intA (bSum n.ms)) := by
  refine AFn_intro Try.func98 rfl Try.ntmps98 rfl (by simp) [_] rfl fun E hE => ?_
  have d1 := acall Try.func37 (a_bufbytes n.ms h.ms) (by decide +kernel) (by decide +kernel)
  refine wI ?_
  exact fin ⟨res_of rfl rfl rfl, trivial⟩
set_option maxRecDepth 100000 in
set_option maxHeartbeats 4000000 in
theorem a_of_leaf (es : List Ent) (ks : List Int) (ps : List Key) (ms : List Msg) : AFn Try.prog 36 [Nd.av ⟨true, es, ks, ps, ms⟩] (.ifc 66 (Nd.av ⟨true, es, ks, ps, ms⟩)) := by
  dsimp only [Nd.av]
  refine AFn_intro Try.func36 rfl Try.ntmps36 rfl (by simp) [_] rfl fun E hE => ?_
  refine wI ?_
  exact fin ⟨res_of rfl rfl rfl, trivial⟩
set_option maxRecDepth 100000 in
set_option maxHeartbeats 4000000 in
theorem a_of_inner (es : List Ent) (ks : List Int) (ps : List Key) (ms : List Msg) : AFn Try.prog 36 [Nd.av ⟨false, es, ks, ps, ms⟩] (.ifc 62 (Nd.av ⟨false, es, ks, ps, ms⟩)) := by
  dsimp only [Nd.av]
  refine AFn_intro Try.func36 rfl Try.ntmps36 rfl (by simp) [_] rfl fun E hE => ?_
  refine wI ?_
  exact fin ⟨res_of rfl rfl rfl, trivial⟩
set_option maxRecDepth 100000 in
set_option maxHeartbeats 4000000 in
theorem a_nodecheck (n : Nd) (h : n.Sm) : AFn Try.prog 15 [n.av] (boolA (nodeOk keyCmp n)) := by
  obtain ⟨lf, es, ks, ps, ms⟩ := n
  dsimp only [Nd.av]
  refine AFn_intro Try.func15 rfl Try.ntmps15 rfl (by simp) [_] rfl fun E hE => ?_
  cases lf with
  | true =>
    have d1 := acall Try.func36 (a_of_leaf es ks ps ms) (by decide +kernel) (by decide +kernel)
    have d2 := mcall (t := 66) (name := "orangery/node.right") Try.func105 (a_leafright _ h) (by decide +kernel) (by decide +kernel) (by decide +kernel) (by decide +kernel)
    refine wI ?_
    exact fin ⟨res_of rfl rfl rfl, trivial⟩
  | false =>
    have d1 := acall Try.func36 (a_of_inner es ks ps ms) (by decide +kernel) (by decide +kernel)
    have d2 := mcall (t := 62) (name := "orangery/node.right") Try.func99 (a_innerright _ h) (by decide +kernel) (by decide +kernel) (by decide +kernel) (by decide +kernel)
    refine wI ?_
    exact fin ⟨res_of rfl rfl rfl, trivial⟩
set_option maxRecDepth 100000 in
set_option maxHeartbeats 4000000 in
theorem a_nodebytes (n : Nd) (h : n.Sm) (hb : n.leaf = true → EBd n.es) : AFn Try.prog 13 [n.av] (intA (ndBytes n)) := by
  obtain ⟨lf, es, ks, ps, ms⟩ := n
  dsimp only [Nd.av]
  refine AFn_intro Try.func13 rfl Try.ntmps13 rfl (by simp) [_] rfl fun E hE => ?_
  cases lf with
  | true =>
    have d1 := acall Try.func36 (a_of_leaf es ks ps ms) (by decide +kernel) (by decide +kernel)
    have d2 := mcall (t := 66) (name := "orangery/node.bytes") Try.func104 (a_leafbytesM _ h (hb rfl)) (by decide +kernel) (by decide +kernel) (by decide +kernel) (by decide +kernel)
    refine wI ?_
    exact fin ⟨res_of rfl rfl rfl, trivial⟩
  | false =>
    have d1 := acall Try.func36 (a_of_inner es ks ps ms) (by decide +kernel) (by decide +kernel)
    have d2 := mcall (t := 62) (name := "orangery/node.bytes") Try.func98 (a_innerbytesM _ h) (by decide +kernel) (by decide +kernel) (by decide +kernel) (by decide +kernel)
    refine wI ?_
    exact fin ⟨res_of rfl rfl rfl, trivial⟩
set_option maxRecDepth 100000 in
set_option maxHeartbeats 4000000 in
theorem a_nodefits (n : Nd) (h : n.Sm) : AFn Try.prog 16 [n.av] (boolA (nodeFits n)) := by
  refine AFn_intro Try.func16 rfl Try.ntmps16 rfl (by simp) [_] rfl fun E hE => ?_
  have c1 := a_nodecheck n h
  have c2 := fun hb => a_nodebytes n h hb
  unfold nodeFits
  have hq := @nodeOk_ebd n
  cases q : nodeOk keyCmp n with
  | false =>
    rw [q] at c1
    have e1 := acall Try.func15 (c1) (by decide +kernel) (by decide +kernel)
    obtain ⟨lf, es, ks, ps, ms⟩ := n
    cases lf with
    | true =>
      have d1 := acall Try.func36 (a_of_leaf es ks ps ms) (by decide +kernel) (by decide +kernel)
      refine wI ?_
      exact fin ⟨res_of rfl rfl rfl, trivial⟩
    | false =>
      have d1 := acall Try.func36 (a_of_inner es ks ps ms) (by decide +kernel) (by decide +kernel)
      refine wI ?_
      exact fin ⟨res_of rfl rfl rfl, trivial⟩
  | true =>
    rw [q] at c1
    have c3 := c2 (hq q)
    have e1 := acall Try.func15 (c1) (by decide +kernel) (by decide +kernel)
    have e2 := acall Try.func13 (c3) (by decide +kernel) (by decide +kernel)
    obtain ⟨lf, es, ks, ps, ms⟩ := n
    cases lf with
    | true =>
      have d1 := acall Try.func36 (a_of_leaf es ks ps ms) (by decide +kernel) (by decide +kernel)
      refine wI ?_
      exact fin ⟨res_of rfl rfl rfl, trivial⟩
    | false =>
      have d1 := acall Try.func36 (a_of_inner es ks ps ms) (by decide +kernel) (by decide +kernel)
      refine wI ?_
      exact fin ⟨res_of rfl rfl rfl, trivial⟩
set_option maxRecDepth 100000 in
set_option maxHeartbeats 4000000 in
theorem a_ref09check (n : Nd) (h : n.Sm) : AFn Try.prog 25 [n.av] (boolA (nodeOk keyCmp n)) := by
  rw [← nodeOk_ref]
  obtain ⟨lf, es, ks, ps, ms⟩ := n
  dsimp only [Nd.av]
  refine AFn_intro Try.func25 rfl Try.ntmps25 rfl (by simp) [_] rfl fun E hE => ?_
  obtain ⟨h1, h2, h3, h4⟩ := h
  unfold nodeOk leafOk innerOk
  dsimp only at h1 h2 h3 h4 ⊢
  cases lf with
  | true =>
    rw [if_pos rfl]
    have c1 := a_ref07check es h1
    cases q : entsOkB refCmp es with
    | false =>
      rw [q] at c1
      have d1 := acall Try.func48 (c1) (by decide +kernel) (by decide +kernel)
      refine wI ?_
      exact fin ⟨res_of rfl rfl rfl, trivial⟩
    | true =>
      rw [q] at c1
      have d1 := acall Try.func48 (c1) (by decide +kernel) (by decide +kernel)
      by_cases e1 : ks.length = 0
      · by_cases e2 : ps.length = 0
        · by_cases e3 : ms.length = 0
          · rw [decide_eq_true (by omega : ks.length + ps.length + ms.length = 0)]
            refine wI ?_
            exact fin ⟨res_yes rfl (by omega), trivial⟩
          · rw [decide_eq_false (by omega : ¬ ks.length + ps.length + ms.length = 0)]
            refine wI ?_
            exact fin ⟨res_no rfl (by omega), trivial⟩
        · rw [decide_eq_false (by omega : ¬ ks.length + ps.length + ms.length = 0)]
          refine wI ?_
          exact fin ⟨res_of rfl rfl rfl, trivial⟩
      · rw [decide_eq_false (by omega : ¬ ks.length + ps.length + ms.length = 0)]
        refine wI ?_
        exact fin ⟨res_of rfl rfl rfl, trivial⟩
  | false =>
    rw [if_neg (by simp)]
    have c1 := a_reffancheck ks ps
    have c2 := a_ref06check ms h4
    by_cases c : es.length = 0
    · rw [decide_eq_true c]
      cases q : fanOkBy refCmp ks ps with
      | false =>
        rw [q] at c1
        have d1 := acall Try.func49 (c1) (by decide +kernel) (by decide +kernel)
        refine wI ?_
        exact fin ⟨res_of rfl rfl rfl, trivial⟩
      | true =>
        rw [q] at c1
        have d1 := acall Try.func49 (c1) (by decide +kernel) (by decide +kernel)
        have d2 := acall Try.func50 (c2) (by decide +kernel) (by decide +kernel)
        refine wI ?_
        exact fin ⟨res_of rfl rfl rfl, trivial⟩
    · rw [decide_eq_false c]
      refine wI ?_
      exact fin ⟨res_of rfl rfl rfl, trivial⟩
set_option maxRecDepth 100000 in
set_option maxHeartbeats 4000000 in
theorem a_ref09bytes (n : Nd) (h : n.Sm) (hb : n.leaf = true → EBd n.es) : AFn Try.prog 14 [n.av] (intA (ndBytes n)) := by
  obtain ⟨lf, es, ks, ps, ms⟩ := n
  dsimp only [Nd.av]
  refine AFn_intro Try.func14 rfl Try.ntmps14 rfl (by simp) [_] rfl fun E hE => ?_
  cases lf with
  | true =>
    have d1 := acall Try.func40 (a_ref07bytes es (hb rfl) h.es) (by decide +kernel) (by decide +kernel)
    refine wI ?_
    exact fin ⟨res_of rfl rfl rfl, trivial⟩
  | false =>
    have d1 := acall Try.func27 (a_ref06bytes ms h.ms) (by decide +kernel) (by decide +kernel)
    refine wI ?_
    exact fin ⟨res_of rfl rfl rfl, trivial⟩
end Go.Proofs.Ytkpjkfjlpiidbaa

namespace Go.Proofs.Ytkpjkfjlpiidbaa
open Go Go.RowKit
set_option linter.unusedVariables false
set_option linter.unusedSimpArgs false
set_option maxRecDepth 100000

theorem part_le (l : List Msg) (cuts : List Key) (n : Nat) : (bfPart l cuts n).length ≤ l.length := part_len l cuts n
attribute [local irreducible] OpOK AWops AW CondB Go2 AFn thenA inBlockA noGotoA orderOk wantedA
set_option maxRecDepth 100000 in
set_option maxHeartbeats 4000000 in
theorem a_weights_leaf (es : List Ent) (ks : List Int) (ps : List Key) (ms : List Msg) : AFn Try.prog 11 [Nd.av ⟨true, es, ks, ps, ms⟩] (intsA []) := by
  dsimp only [Nd.av]
  refine AFn_intro Try.func11 rfl Try.ntmps11 rfl (by simp) [_] rfl fun E hE => ?_
  have hnt : (!true) = false := rfl
  have hnf : (!false) = true := rfl
  have d1 := acall Try.func36 (a_of_leaf es ks ps ms) (by decide +kernel) (by decide +kernel)
  refine wI ?_
  exact fin ⟨res_nil rfl, trivial⟩
set_option maxRecDepth 100000 in
set_option maxHeartbeats 4000000 in
theorem a_weights_inner (es : List Ent) (ks : List Int) (ps : List Key) (ms : List Msg) (hs : BSrt ms) (hk : ks.length ≤ ps.length + 1) (h3 : ps.length ≤ 1000000) (h4 : ms.length ≤ 1000000) : AFn Try.prog 11 [Nd.av ⟨false, es, ks, ps, ms⟩] (intsA (wtsAt ⟨false, es, ks, ps, ms⟩ ks.length)) := by
  dsimp only [Nd.av]
  refine AFn_intro Try.func11 rfl Try.ntmps11 rfl (by simp) [_] rfl fun E hE => ?_
  have hnt : (!true) = false := rfl
  have hnf : (!false) = true := rfl
  have d1 := acall Try.func36 (a_of_inner es ks ps ms) (by decide +kernel) (by decide +kernel)
  refine wI ?_
  refine AW_go (Go2.token 3 3 0 3 rfl rfl) ?_
  refine AW_loopI (fun j : Nat => ⟨[(4, .ptr 4 0 []), (13, intA ks.length), (14, intA j), (3, .sl (some 3) 1 ((wtsAt ⟨false, es, ks, ps, ms⟩ j).map intA))], [(4, .var (nodeA false (entsA es) (intsA ks) (keysA ps) (msgsA ms))), (3, .tail 3 1 (wtsAt ⟨false, es, ks, ps, ms⟩ j).length)]⟩) (fun j => j ≤ ks.length) (fun j => ks.length - j) 0 (Nat.zero_le _) (by (refine Go2.sub ⟨?_, ?_, ?_⟩ <;> repeat' (first | exact True.intro | rfl | apply And.intro))) (fun j hj => ?_)
  have hl := wtsAt_len ⟨false, es, ks, ps, ms⟩ j
  have hsn := wtsAt_succ ⟨false, es, ks, ps, ms⟩ j
  by_cases c : j < ks.length
  · have hpl := part_le ms ps j
    have d2 := acall Try.func38 (a_bufpart ms ps j hs (by omega) (by omega) (by omega)) (by decide +kernel) (by decide +kernel)
    have d3 := acall Try.func37 (a_bufbytes (bfPart ms ps j) (by omega)) (by decide +kernel) (by decide +kernel)
    refine wI ?_
    refine ⟨j + 1, c, by omega, ?_⟩
    rw [hsn]
    (refine Go2.sub ⟨?_, ?_, ?_⟩ <;> repeat' (first | exact True.intro | rfl | apply And.intro))
  · obtain rfl : j = ks.length := by omega
    refine wI ?_
    exact fin ⟨res_sl rfl, trivial⟩
set_option maxRecDepth 100000 in
set_option maxHeartbeats 4000000 in
theorem a_refweights_leaf (es : List Ent) (ks : List Int) (ps : List Key) (ms : List Msg) : AFn Try.prog 12 [Nd.av ⟨true, es, ks, ps, ms⟩] (intsA []) := by
  dsimp only [Nd.av]
  refine AFn_intro Try.func12 rfl Try.ntmps12 rfl (by simp) [_] rfl fun E hE => ?_
  have hnt : (!true) = false := rfl
  have hnf : (!false) = true := rfl
  refine wI ?_
  refine AW_loopI (fun j : Nat => ⟨[(1, .ptr 1 0 []), (4, intA ((0 : Nat) : Int)), (3, .v (.slice none 0 0))], [(1, .var (nodeA true (entsA es) (intsA ks) (keysA ps) (msgsA ms)))]⟩) (fun j => True) (fun j => 0) 0 trivial (by (refine Go2.sub ⟨?_, ?_, ?_⟩ <;> repeat' (first | exact True.intro | rfl | apply And.intro))) (fun j hj => ?_)
  by_cases c : 0 < ks.length
  · refine wI ?_
    exact fin ⟨res_nil rfl, trivial⟩
  · refine wI ?_
    exact fin ⟨res_nil rfl, trivial⟩
set_option maxRecDepth 100000 in
set_option maxHeartbeats 4000000 in
theorem a_refweights_inner (es : List Ent) (ks : List Int) (ps : List Key) (ms : List Msg) (hs : Bf ms) (hr : Rise ps) (hk : ks.length ≤ ps.length + 1) (h3 : ps.length ≤ 1000000) (h4 : ms.length ≤ 1000000) : AFn Try.prog 12 [Nd.av ⟨false, es, ks, ps, ms⟩] (intsA (wtsAt ⟨false, es, ks, ps, ms⟩ ks.length)) := by
  dsimp only [Nd.av]
  refine AFn_intro Try.func12 rfl Try.ntmps12 rfl (by simp) [_] rfl fun E hE => ?_
  have hnt : (!true) = false := rfl
  have hnf : (!false) = true := rfl
  refine wI ?_
  refine AW_go (Go2.token 3 3 0 3 rfl rfl) ?_
  refine AW_loopI (fun j : Nat => ⟨[(1, .ptr 1 0 []), (4, intA j), (3, .sl (some 3) 1 ((wtsAt ⟨false, es, ks, ps, ms⟩ j).map intA))], [(1, .var (nodeA false (entsA es) (intsA ks) (keysA ps) (msgsA ms))), (3, .tail 3 1 (wtsAt ⟨false, es, ks, ps, ms⟩ j).length)]⟩) (fun j => j ≤ ks.length) (fun j => ks.length - j) 0 (Nat.zero_le _) (by (refine Go2.sub ⟨?_, ?_, ?_⟩ <;> repeat' (first | exact True.intro | rfl | apply And.intro))) (fun j hj => ?_)
  have hl := wtsAt_len ⟨false, es, ks, ps, ms⟩ j
  have hsn := wtsAt_succ ⟨false, es, ks, ps, ms⟩ j
  by_cases c : j < ks.length
  · have hpl := part_le ms ps j
    have d2 := acall Try.func39 (a_ref06part ms ps j hs hr (by omega) (by omega) (by omega)) (by decide +kernel) (by decide +kernel)
    have d3 := acall Try.func27 (a_ref06bytes (bfPart ms ps j) (by omega)) (by decide +kernel) (by decide +kernel)
    refine wI ?_
    refine ⟨j + 1, c, by omega, ?_⟩
    rw [hsn]
    (refine Go2.sub ⟨?_, ?_, ?_⟩ <;> repeat' (first | exact True.intro | rfl | apply And.intro))
  · obtain rfl : j = ks.length := by omega
    refine wI ?_
    exact fin ⟨res_sl rfl, trivial⟩
set_option maxRecDepth 100000 in
set_option maxHeartbeats 4000000 in
theorem a_heaviest (n : Nd) (w : List Int) (hw : AFn Try.prog 11 [n.av] (intsA w)) (hl : w.length ≤ 1000000) : AFn Try.prog 17 [n.av] (intA (hvOf w)) := by
  refine AFn_intro Try.func17 rfl Try.ntmps17 rfl (by simp) [_] rfl fun E hE => ?_
  have hnt : (!true) = false := rfl
  have hnf : (!false) = true := rfl
  have d1 := acall Try.func11 (hw) (by decide +kernel) (by decide +kernel)
  refine wI ?_
  refine AW_loopI (fun j : Nat => ⟨[(8, intsA w), (9, intA w.length), (10, intA j), (3, intA (hvAt w j).1), (4, intA (hvAt w j).2)], []⟩) (fun j => j ≤ w.length) (fun j => w.length - j) 0 (Nat.zero_le _) (by (refine Go2.sub ⟨?_, ?_, ?_⟩ <;> repeat' (first | exact True.intro | rfl | apply And.intro))) (fun j hj => ?_)
  by_cases c : j < w.length
  · have hs := hvAt_succ w j c
    unfold hvStep at hs
    by_cases q : (hvAt w j).2 < w[j]
    · rw [if_pos q] at hs
      refine wI ?_
      refine ⟨j + 1, c, by omega, ?_⟩
      rw [hs]
      (refine Go2.sub ⟨?_, ?_, ?_⟩ <;> repeat' (first | exact True.intro | rfl | apply And.intro))
    · rw [if_neg q] at hs
      refine wI ?_
      refine ⟨j + 1, c, by omega, ?_⟩
      rw [hs]
      (refine Go2.sub ⟨?_, ?_, ?_⟩ <;> repeat' (first | exact True.intro | rfl | apply And.intro))
  · obtain rfl : j = w.length := by omega
    refine wI ?_
    exact fin ⟨res_of rfl rfl rfl, trivial⟩
set_option maxRecDepth 100000 in
set_option maxHeartbeats 4000000 in
theorem a_refheaviest (n : Nd) (w : List Int) (hw : AFn Try.prog 12 [n.av] (intsA w)) (hl : w.length ≤ 1000000) : AFn Try.prog 18 [n.av] (intA (hvOf w)) := by
  refine AFn_intro Try.func18 rfl Try.ntmps18 rfl (by simp) [_] rfl fun E hE => ?_
  have hnt : (!true) = false := rfl
  have hnf : (!false) = true := rfl
  have d1 := acall Try.func12 (hw) (by decide +kernel) (by decide +kernel)
  refine wI ?_
  refine AW_loopI (fun j : Nat => ⟨[(3, intsA w), (4, intA (hvAt w j).1), (5, intA j)], []⟩) (fun j => j ≤ w.length) (fun j => w.length - j) 0 (Nat.zero_le _) (by (refine Go2.sub ⟨?_, ?_, ?_⟩ <;> repeat' (first | exact True.intro | rfl | apply And.intro))) (fun j hj => ?_)
  by_cases c : j < w.length
  · have hs := hvAt_succ w j c
    unfold hvStep at hs
    by_cases q0 : 0 < w[j]
    · rcases hvAt_is w j hj with ⟨e1, e2, e3⟩ | ⟨a, ha, hal, e1, e2, e3, e4, e5⟩
      · rw [if_pos (by omega)] at hs
        rw [e1]
        have q1 : (-1 : Int) < 0 := by omega
        refine wI ?_
        refine ⟨j + 1, c, by omega, ?_⟩
        rw [hs]
        (refine Go2.sub ⟨?_, ?_, ?_⟩ <;> repeat' (first | exact True.intro | rfl | apply And.intro))
      · have q1 : ¬ ((a : Int) < 0) := by omega
        by_cases q : w[a] < w[j]
        · rw [if_pos (by omega)] at hs
          rw [e1]
          refine wI ?_
          refine ⟨j + 1, c, by omega, ?_⟩
          rw [hs]
          (refine Go2.sub ⟨?_, ?_, ?_⟩ <;> repeat' (first | exact True.intro | rfl | apply And.intro))
        · rw [if_neg (by omega)] at hs
          rw [e1]
          refine wI ?_
          refine ⟨j + 1, c, by omega, ?_⟩
          rw [hs, e1]
          (refine Go2.sub ⟨?_, ?_, ?_⟩ <;> repeat' (first | exact True.intro | rfl | apply And.intro))
    · have h0 : 0 ≤ (hvAt w j).2 := by
        rcases hvAt_is w j hj with ⟨e1, e2, e3⟩ | ⟨a, ha, hal, e1, e2, e3, e4, e5⟩ <;> omega
      rw [if_neg (by omega)] at hs
      refine wI ?_
      refine ⟨j + 1, c, by omega, ?_⟩
      rw [hs]
      (refine Go2.sub ⟨?_, ?_, ?_⟩ <;> repeat' (first | exact True.intro | rfl | apply And.intro))
  · obtain rfl : j = w.length := by omega
    refine wI ?_
    exact fin ⟨res_of rfl rfl rfl, trivial⟩
set_option maxRecDepth 100000 in
set_option maxHeartbeats 4000000 in
theorem a_nodeheavy (n : Nd) (h : n.Sm) (hb : n.leaf = true → EBd n.es) : AFn Try.prog 19 [n.av] (boolA (ndHeavy n)) := by
  have c1 := a_nodebytes n h hb
  obtain ⟨lf, es, ks, ps, ms⟩ := n
  dsimp only [Nd.av] at c1 ⊢
  refine AFn_intro Try.func19 rfl Try.ntmps19 rfl (by simp) [_] rfl fun E hE => ?_
  have hnt : (!true) = false := rfl
  have hnf : (!false) = true := rfl
  have d1 := acall Try.func13 (c1) (by decide +kernel) (by decide +kernel)
  have hs := bSum_le ms
  have h4 := h.ms
  dsimp only at h4
  cases lf with
  | true =>
    refine wI ?_
    exact fin ⟨res_of rfl rfl rfl, trivial⟩
  | false =>
    have e : ndBytes ⟨false, es, ks, ps, ms⟩ = bSum ms := rfl
    rw [e] at d1
    refine wI ?_
    exact fin ⟨res_of rfl rfl rfl, trivial⟩
set_option maxRecDepth 100000 in
set_option maxHeartbeats 4000000 in
theorem a_refheavy (n : Nd) (h : n.Sm) (hb : n.leaf = true → EBd n.es) : AFn Try.prog 20 [n.av] (boolA (ndHeavy n)) := by
  have c1 := a_ref09bytes n h hb
  obtain ⟨lf, es, ks, ps, ms⟩ := n
  dsimp only [Nd.av] at c1 ⊢
  refine AFn_intro Try.func20 rfl Try.ntmps20 rfl (by simp) [_] rfl fun E hE => ?_
  have hnt : (!true) = false := rfl
  have hnf : (!false) = true := rfl
  have d1 := acall Try.func14 (c1) (by decide +kernel) (by decide +kernel)
  have hs := bSum_le ms
  have h4 := h.ms
  dsimp only at h4
  cases lf with
  | true =>
    refine wI ?_
    exact fin ⟨res_of rfl rfl rfl, trivial⟩
  | false =>
    have e : ndBytes ⟨false, es, ks, ps, ms⟩ = bSum ms := rfl
    rw [e] at d1
    refine wI ?_
    exact fin ⟨res_of rfl rfl rfl, trivial⟩
set_option maxRecDepth 100000 in
set_option maxHeartbeats 4000000 in
theorem a_nodesame (a b : Nd) (h : a.Sm) : AFn Try.prog 21 [a.av, b.av] (boolA (decide (a = b))) := by
  obtain ⟨l1, es1, ks1, ps1, ms1⟩ := a
  obtain ⟨l2, es2, ks2, ps2, ms2⟩ := b
  dsimp only [Nd.av]
  refine AFn_intro Try.func21 rfl Try.ntmps21 rfl (by simp) [_] rfl fun E hE => ?_
  obtain ⟨h1, h2, h3, h4⟩ := h
  dsimp only at h1 h2 h3 h4
  by_cases q0 : l1 = l2
  · have c0 := a_eqEnts es1 es2 (by omega)
    by_cases q1 : es1 = es2
    · rw [decide_eq_true q1] at c0
      have d0 := acall Try.func41 (c0) (by decide +kernel) (by decide +kernel)
      have c1 := a_eqInts ks1 ks2 (by omega)
      by_cases q2 : ks1 = ks2
      · rw [decide_eq_true q2] at c1
        have d1 := acall Try.func42 (c1) (by decide +kernel) (by decide +kernel)
        have c2 := a_eqKeys ps1 ps2 (by omega)
        by_cases q3 : ps1 = ps2
        · rw [decide_eq_true q3] at c2
          have d2 := acall Try.func43 (c2) (by decide +kernel) (by decide +kernel)
          have c3 := a_eqMsgs ms1 ms2 (by omega)
          by_cases q4 : ms1 = ms2
          · rw [decide_eq_true q4] at c3
            have d3 := acall Try.func44 (c3) (by decide +kernel) (by decide +kernel)
            subst q0 q1 q2 q3 q4
            rw [decide_eq_true rfl]
            cases l1
            · refine wI ?_
              exact fin ⟨res_of rfl rfl rfl, trivial⟩
            · refine wI ?_
              exact fin ⟨res_of rfl rfl rfl, trivial⟩
          · rw [decide_eq_false q4] at c3
            have d3 := acall Try.func44 (c3) (by decide +kernel) (by decide +kernel)
            rw [show decide ((⟨l1, es1, ks1, ps1, ms1⟩ : Nd) = ⟨l2, es2, ks2, ps2, ms2⟩) = false from decide_eq_false fun k => q4 (by injection k)]
            subst q0
            cases l1
            · refine wI ?_
              exact fin ⟨res_of rfl rfl rfl, trivial⟩
            · refine wI ?_
              exact fin ⟨res_of rfl rfl rfl, trivial⟩
        · rw [decide_eq_false q3] at c2
          have d2 := acall Try.func43 (c2) (by decide +kernel) (by decide +kernel)
          rw [show decide ((⟨l1, es1, ks1, ps1, ms1⟩ : Nd) = ⟨l2, es2, ks2, ps2, ms2⟩) = false from decide_eq_false fun k => q3 (by injection k)]
          subst q0
          cases l1
          · refine wI ?_
            exact fin ⟨res_of rfl rfl rfl, trivial⟩
          · refine wI ?_
            exact fin ⟨res_of rfl rfl rfl, trivial⟩
      · rw [decide_eq_false q2] at c1
        have d1 := acall Try.func42 (c1) (by decide +kernel) (by decide +kernel)
        rw [show decide ((⟨l1, es1, ks1, ps1, ms1⟩ : Nd) = ⟨l2, es2, ks2, ps2, ms2⟩) = false from decide_eq_false fun k => q2 (by injection k)]
        subst q0
        cases l1
        · refine wI ?_
          exact fin ⟨res_of rfl rfl rfl, trivial⟩
        · refine wI ?_
          exact fin ⟨res_of rfl rfl rfl, trivial⟩
    · rw [decide_eq_false q1] at c0
      have d0 := acall Try.func41 (c0) (by decide +kernel) (by decide +kernel)
      rw [show decide ((⟨l1, es1, ks1, ps1, ms1⟩ : Nd) = ⟨l2, es2, ks2, ps2, ms2⟩) = false from decide_eq_false fun k => q1 (by injection k)]
      subst q0
      cases l1
      · refine wI ?_
        exact fin ⟨res_of rfl rfl rfl, trivial⟩
      · refine wI ?_
        exact fin ⟨res_of rfl rfl rfl, trivial⟩
  · rw [show decide ((⟨l1, es1, ks1, ps1, ms1⟩ : Nd) = ⟨l2, es2, ks2, ps2, ms2⟩) = false from decide_eq_false fun k => q0 (by injection k)]
    cases l1 <;> cases l2 <;> first | exact absurd rfl q0 | skip
    · refine wI ?_
      exact fin ⟨res_of rfl rfl rfl, trivial⟩
    · refine wI ?_
      exact fin ⟨res_of rfl rfl rfl, trivial⟩
set_option maxRecDepth 100000 in
set_option maxHeartbeats 4000000 in
theorem a_refsame (a b : Nd) (h : a.Sm) : AFn Try.prog 22 [a.av, b.av] (boolA (decide (a = b))) := by
  obtain ⟨l1, es1, ks1, ps1, ms1⟩ := a
  obtain ⟨l2, es2, ks2, ps2, ms2⟩ := b
  dsimp only [Nd.av]
  refine AFn_intro Try.func22 rfl Try.ntmps22 rfl (by simp) [_] rfl fun E hE => ?_
  obtain ⟨h1, h2, h3, h4⟩ := h
  dsimp only at h1 h2 h3 h4
  by_cases q0 : l1 = l2
  · have c0 := a_sameEnts es1 es2 (by omega)
    by_cases q1 : es1 = es2
    · rw [decide_eq_true q1] at c0
      have d0 := acall Try.func32 (c0) (by decide +kernel) (by decide +kernel)
      have c1 := a_sameInts ks1 ks2 (by omega)
      by_cases q2 : ks1 = ks2
      · rw [decide_eq_true q2] at c1
        have d1 := acall Try.func45 (c1) (by decide +kernel) (by decide +kernel)
        have c2 := a_sameKeys ps1 ps2 (by omega)
        by_cases q3 : ps1 = ps2
        · rw [decide_eq_true q3] at c2
          have d2 := acall Try.func46 (c2) (by decide +kernel) (by decide +kernel)
          have c3 := a_sameMsgs ms1 ms2 (by omega)
          by_cases q4 : ms1 = ms2
          · rw [decide_eq_true q4] at c3
            have d3 := acall Try.func47 (c3) (by decide +kernel) (by decide +kernel)
            subst q0 q1 q2 q3 q4
            rw [decide_eq_true rfl]
            cases l1
            · refine wI ?_
              exact fin ⟨res_of rfl rfl rfl, trivial⟩
            · refine wI ?_
              exact fin ⟨res_of rfl rfl rfl, trivial⟩
          · rw [decide_eq_false q4] at c3
            have d3 := acall Try.func47 (c3) (by decide +kernel) (by decide +kernel)
            rw [show decide ((⟨l1, es1, ks1, ps1, ms1⟩ : Nd) = ⟨l2, es2, ks2, ps2, ms2⟩) = false from decide_eq_false fun k => q4 (by injection k)]
            subst q0
            cases l1
            · refine wI ?_
              exact fin ⟨res_of rfl rfl rfl, trivial⟩
            · refine wI ?_
              exact fin ⟨res_of rfl rfl rfl, trivial⟩
        · rw [decide_eq_false q3] at c2
          have d2 := acall Try.func46 (c2) (by decide +kernel) (by decide +kernel)
          rw [show decide ((⟨l1, es1, ks1, ps1, ms1⟩ : Nd) = ⟨l2, es2, ks2, ps2, ms2⟩) = false from decide_eq_false fun k => q3 (by injection k)]
          subst q0
          cases l1
          · refine wI ?_
            exact fin ⟨res_of rfl rfl rfl, trivial⟩
          · refine wI ?_
            exact fin ⟨res_of rfl rfl rfl, trivial⟩
      · rw [decide_eq_false q2] at c1
        have d1 := acall Try.func45 (c1) (by decide +kernel) (by decide +kernel)
        rw [show decide ((⟨l1, es1, ks1, ps1, ms1⟩ : Nd) = ⟨l2, es2, ks2, ps2, ms2⟩) = false from decide_eq_false fun k => q2 (by injection k)]
        subst q0
        cases l1
        · refine wI ?_
          exact fin ⟨res_of rfl rfl rfl, trivial⟩
        · refine wI ?_
          exact fin ⟨res_of rfl rfl rfl, trivial⟩
    · rw [decide_eq_false q1] at c0
      have d0 := acall Try.func32 (c0) (by decide +kernel) (by decide +kernel)
      rw [show decide ((⟨l1, es1, ks1, ps1, ms1⟩ : Nd) = ⟨l2, es2, ks2, ps2, ms2⟩) = false from decide_eq_false fun k => q1 (by injection k)]
      subst q0
      cases l1
      · refine wI ?_
        exact fin ⟨res_of rfl rfl rfl, trivial⟩
      · refine wI ?_
        exact fin ⟨res_of rfl rfl rfl, trivial⟩
  · rw [show decide ((⟨l1, es1, ks1, ps1, ms1⟩ : Nd) = ⟨l2, es2, ks2, ps2, ms2⟩) = false from decide_eq_false fun k => q0 (by injection k)]
    cases l1 <;> cases l2 <;> first | exact absurd rfl q0 | skip
    · refine wI ?_
      exact fin ⟨res_of rfl rfl rfl, trivial⟩
    · refine wI ?_
      exact fin ⟨res_of rfl rfl rfl, trivial⟩
end Go.Proofs.Ytkpjkfjlpiidbaa
