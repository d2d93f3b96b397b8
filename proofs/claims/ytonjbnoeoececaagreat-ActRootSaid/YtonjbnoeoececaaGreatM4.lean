/-
  M4: several texts as one: BufPlace, BufWalks, BufMore, BufMore2, BufParts, AfnFan0, AfnFan, AfnRef8, AfnPlace, AfnLaw00, FanRise, BufChecks, LeafPure, LeafWalks, LeafPut, LeafPut2, LeafMore, LeafCheck, AfnInner, AfnTwo, BufLaws, BufAcc, NodePure, AbsStr, LeafSplit, LeafBuf, BufFold, ActPure, NodeEq. No condition beyond those that each theorem states.
-/
import Derived.Test.YtonjbnoeoececaaGreatM3
namespace Go.Proofs.YtonjbnoeoececaaGreat
open Go Go.RowKit
set_option linter.unusedVariables false
set_option linter.unusedSimpArgs false
set_option maxRecDepth 100000

def bfHit (k : Key) (l : List Msg) : Bool := match l[bfAt k l]? with
  | some e => decide (e.key = k)
  | none => false
theorem bfHit_at {k : Key} {l : List Msg} (hi : bfAt k l < l.length) : bfHit k l = decide (l[bfAt k l].key = k) := by
  unfold bfHit; rw [List.getElem?_eq_getElem hi]
theorem bfHit_end {k : Key} {l : List Msg} (hi : ¬ bfAt k l < l.length) : bfHit k l = false := by
  unfold bfHit; rw [List.getElem?_eq_none (by omega)]
attribute [local irreducible] OpOK AWops AW CondB Go2 AFn thenA inBlockA noGotoA orderOk wantedA
set_option maxRecDepth 100000 in
set_option maxHeartbeats 4000000 in
theorem a_place1 (l : List Msg) (k : Key) (i : Nat) (h : i < l.length) : AFn Tryz.prog 108 [intA i, .ref (msgsA l), .ref k.av] (boolA (decide (0 ≤ keyCmp l[i].key k))) := by
  refine AFn_intro Tryz.func108 rfl Tryz.ntmps108 rfl (by simp) [_] rfl fun E hE => ?_
  have c1 := acall Tryz.func109 (a_keycmp l[i].key k) (by decide +kernel) (by decide +kernel)
  refine wF ?_
  exact fin ⟨res_of rfl rfl rfl, trivial⟩
set_option maxRecDepth 100000 in
set_option maxHeartbeats 4000000 in
theorem a_search (l : List Msg) (k : Key) (h : BSrt l) (hl : l.length ≤ 1000000000) : AFn Tryz.prog 107 [intA l.length, .fn (.func 108) [] [.ref (msgsA l), .ref k.av]] (intA (bfAt k l : Nat)) := by
  refine AFn_intro Tryz.func107 rfl Tryz.ntmps107 rfl (by simp) [_] rfl fun E hE => ?_
  have hle := bfAt_le k l
  have hnt : (!true) = false := rfl
  have hnf : (!false) = true := rfl
  refine wF ?_
  refine AW_loopI (fun j : Nat × Nat => ⟨[(1, .fn (.func 108) [] [.ref (msgsA l), .ref k.av]), (5, intA j.1), (6, intA j.2)], []⟩) (fun j => j.1 ≤ bfAt k l ∧ bfAt k l ≤ j.2 ∧ j.2 ≤ l.length) (fun j => j.2 - j.1) (0, l.length) ⟨Nat.zero_le _, hle, Nat.le_refl _⟩ (by (refine Go2.sub ⟨?_, ?_⟩ <;> repeat' (first | exact True.intro | rfl | apply And.intro))) (fun j hj => ?_)
  obtain ⟨lo, hi⟩ := j
  obtain ⟨j1, j2, j3⟩ := hj
  dsimp only at j1 j2 j3 ⊢
  by_cases c : lo < hi
  · have hm : (lo + hi) / 2 < l.length := by omega
    have hit := bfAt_iff (k := k) h _ hm
    have c0 := a_place1 l k _ hm
    by_cases q : 0 ≤ keyCmp l[(lo + hi) / 2].key k
    · have q' := q
      rw [keyCmp_rank, sgn_ge] at q'
      rw [decide_eq_true q] at c0
      have c1 := acall Tryz.func108 c0 (by decide +kernel) (by decide +kernel)
      refine wF ?_
      refine ⟨(lo, (lo + hi) / 2), ⟨j1, by dsimp only; omega, by dsimp only; omega⟩, by dsimp only; omega, ?_⟩
      (refine Go2.sub ⟨?_, ?_⟩ <;> repeat' (first | exact True.intro | rfl | apply And.intro))
    · have q' := q
      rw [keyCmp_rank, sgn_ge] at q'
      rw [decide_eq_false q] at c0
      have c1 := acall Tryz.func108 c0 (by decide +kernel) (by decide +kernel)
      refine wF ?_
      refine ⟨((lo + hi) / 2 + 1, hi), ⟨by dsimp only; omega, j2, j3⟩, by dsimp only; omega, ?_⟩
      (refine Go2.sub ⟨?_, ?_⟩ <;> repeat' (first | exact True.intro | rfl | apply And.intro))
  · obtain rfl : lo = bfAt k l := by omega
    refine wF ?_
    exact fin ⟨res_of rfl rfl rfl, trivial⟩
set_option maxRecDepth 100000 in
set_option maxHeartbeats 4000000 in
theorem a_bufplace (l : List Msg) (k : Key) (h : BSrt l) (hl : l.length ≤ 1000000000) : AFn Tryz.prog 98 [msgsA l, k.av] (.tup [intA (bfAt k l : Nat), boolA (bfHit k l)]) := by
  refine AFn_intro Tryz.func98 rfl Tryz.ntmps98 rfl (by simp) [_, _] rfl fun E hE => ?_
  have hle := bfAt_le k l
  have c1 := acall Tryz.func107 (a_search l k h hl) (by decide +kernel) (by decide +kernel)
  repeat (first | refine Wend _ ?_ | refine AW_seq ?_ | refine AW_reg ?_ | refine AW_drw mixed ?_ | refine AW_block ?_ | refine AW_scope ?_ | refine thenA_n ?_ | refine blockA_n ?_ | refine blockA_h ?_ | refine scopeA_n ?_ | refine thenA_r ?_ | refine blockA_r ?_ | refine scopeA_r ?_ | refine thenA_e ?_ | refine scopeA_e ?_ | refine blockA_e rfl ?_ | refine AW_exit ?_ | refine AW_ret ?_ | refine AW_skip ?_ | refine AW_c rfl ?_ | with_reducible refine cb_t ?_ | with_reducible refine cb_f ?_ | with_reducible refine cb_yes (by first | assumption | omega) ?_ | with_reducible refine cb_no (by first | assumption | omega) ?_ | refine And.intro (by decide +kernel) ?_)
  iterate 4 (first | (apply Wv; (focus (first | exact step_ok rfl rfl | exact o_idx rfl rfl rfl rfl (by first | assumption | omega | decide) | exact o_idx3 rfl rfl rfl rfl (by first | assumption | omega | decide) | exact o_idx2 rfl rfl rfl rfl rfl (by first | assumption | omega | decide) | exact o_idxr rfl rfl rfl rfl rfl rfl | exact o_lenm rfl rfl rfl | exact o_len rfl rfl rfl | exact o_len0 rfl rfl rfl | exact o_lens rfl rfl rfl | exact o_lent rfl rfl | exact o_add1 rfl rfl rfl (by omega) | exact o_addn rfl rfl rfl (by omega) | exact o_add rfl rfl rfl (by omega) | exact o_sub1 rfl rfl rfl (by omega) | exact o_sub rfl rfl rfl (by omega) | exact o_mul rfl rfl rfl (by omega) | exact o_rem rfl rfl rfl (by omega) | exact ok_rem rfl rfl rfl (by decide) rfl | exact o_eqKey rfl rfl rfl | exact o_neKey rfl rfl rfl | exact o_eqVl rfl rfl rfl | exact o_neVl rfl rfl rfl | exact o_eqEnt rfl rfl rfl | exact o_neEnt rfl rfl rfl | exact o_eqMsg rfl rfl rfl | exact o_neMsg rfl rfl rfl | exact o_acall rfl rfl rfl rfl (by assumption) | exact o_minn rfl rfl rfl | exact o_cutl rfl rfl rfl rfl (by omega) | exact o_cuth rfl rfl rfl rfl (by omega) | exact o_cutl3 rfl rfl rfl rfl (by omega) | exact o_cuth3 rfl rfl rfl rfl (by omega) | exact o_cutl2 rfl rfl rfl rfl rfl (by omega) | exact o_cuth2 rfl rfl rfl rfl rfl (by omega) | exact o_cutlh2 rfl rfl rfl rfl rfl rfl rfl (by omega) (by omega) | exact e_bld rfl rfl rfl | exact e_bldk rfl rfl | exact z_bld0 rfl rfl rfl rfl rfl | exact z_bld rfl rfl rfl rfl rfl rfl rfl | exact o_addu rfl rfl rfl | exact o_mkfn rfl rfl rfl | exact o_callv rfl rfl rfl rfl rfl rfl (by assumption) | exact o_shr1 rfl rfl rfl | exact o_cviu ⟨_, Tryz.underlying3⟩ Tryz.underlying137 rfl rfl (by omega) | exact o_cvui ⟨_, Tryz.underlying137⟩ Tryz.underlying3 rfl rfl (by omega) | exact z_blda rfl rfl rfl rfl rfl rfl rfl rfl rfl | exact o_idxa rfl rfl rfl rfl rfl rfl | exact o_idxra rfl rfl rfl rfl rfl rfl rfl | exact o_quo2 rfl rfl rfl (by omega) | exact o_quo rfl rfl rfl (by omega))); (focus (first | exact want_n | exact want_g rfl (by with_reducible rfl)))) | (apply Wb; (focus (first | exact o_box rfl rfl rfl rfl | exact o_app rfl rfl rfl rfl rfl (by first | exact o_many rfl | exact o_one _ _ rfl) (by first | omega | (simp; omega) | simp) (by first | omega | (simp; omega) | simp) | exact o_appn rfl rfl rfl rfl rfl (by first | exact o_many rfl | exact o_one _ _ rfl) (by first | omega | (simp; omega) | simp) (by first | omega | (simp; omega) | simp) | exact o_app1 rfl rfl rfl rfl rfl (by first | exact o_many rfl | exact o_one _ _ rfl) (by exact rfl) (by first | omega | (simp; omega) | simp) (by first | omega | (simp; omega) | simp) | exact o_app0 rfl rfl rfl rfl rfl (by first | exact o_many rfl | exact o_one _ _ rfl) (by first | omega | (simp; omega) | simp) (by first | omega | (simp; omega) | simp) | exact o_bsl0 rfl rfl rfl | exact z_bsll rfl rfl rfl rfl rfl rfl rfl rfl rfl | exact z_alloc rfl rfl rfl)); (focus (first | exact want_n | exact want_g rfl (by with_reducible rfl)))) | (apply Ws; (focus (exact ok_store tabT (d := none) rfl rfl rfl rfl rfl rfl rfl rfl rfl rfl)); (focus (first | exact want_n | exact want_g rfl (by with_reducible rfl)))) | (refine Wskip (by first | exact want_f rfl (by with_reducible exact b_nt) | exact want_f rfl (by with_reducible exact b_nf) | exact want_t rfl) rfl ?_) | refine Wgt rfl rfl (by first | assumption | omega | exact rfl) ?_ | refine Wgf rfl rfl (by first | assumption | omega | exact rfl) ?_ | (refine Wgb rfl rfl (by with_reducible assumption) ?_) | (refine cb_is _ (by assumption) ?_))
  refine Wend _ ?_
  refine thenA_n ?_
  refine AW_go (Go2.froz hE 2 rfl) ?_
  refine AW_go (Go2.froz hE 3 rfl) ?_
  refine AW_go (Go2.ref 2 2 rfl rfl rfl) ?_
  refine AW_go (Go2.ref 3 3 rfl rfl rfl) ?_
  by_cases e : bfAt k l < l.length
  · rw [bfHit_at e]
    refine wF ?_
    exact fin ⟨res_of rfl rfl rfl, res_of rfl rfl rfl, trivial⟩
  · rw [bfHit_end e]
    refine wF ?_
    exact fin ⟨res_of rfl rfl rfl, res_of rfl rfl rfl, trivial⟩
end Go.Proofs.YtonjbnoeoececaaGreat

namespace Go.Proofs.YtonjbnoeoececaaGreat
open Go Go.RowKit
set_option linter.unusedVariables false
set_option linter.unusedSimpArgs false
set_option maxRecDepth 100000

/-- what the document's loop has put out behind j entries -/
def outM {α : Type} (l : List α) (p q : Nat) (new : List α) (j : Nat) : List α := l.take (min j p) ++ ((if p < j then new else []) ++ (l.take j).drop q)
theorem outM_zero {α : Type} (l : List α) (p q : Nat) (new : List α) : outM l p q new 0 = [] := by simp [outM]
theorem outM_lo {α : Type} {l : List α} {p q : Nat} {new : List α} {j : Nat} (hp : p ≤ q) (hj : j < p) (hl : j < l.length) : outM l p q new (j + 1) = outM l p q new j ++ [l[j]] := by
  unfold outM
  rw [if_neg (by omega), if_neg (by omega), Nat.min_eq_left (by omega), Nat.min_eq_left (by omega), List.drop_eq_nil_of_le (by simp; omega), List.drop_eq_nil_of_le (by simp; omega)]
  simp only [List.append_nil]
  exact (List.take_append_getElem hl).symm
theorem drop_take_snocM {α : Type} {l : List α} {q j : Nat} (hq : q ≤ j) (hl : j < l.length) : (l.take (j + 1)).drop q = (l.take j).drop q ++ [l[j]] := by
  rw [← List.take_append_getElem hl, List.drop_append_of_le_length (by simp; omega)]
theorem outM_no {α : Type} {l : List α} {p : Nat} {new : List α} (hl : p < l.length) : outM l p p new (p + 1) = (outM l p p new p ++ new) ++ [l[p]] := by
  unfold outM
  rw [if_pos (by omega), if_neg (by omega), Nat.min_eq_right (by omega), Nat.min_self, drop_take_snocM (Nat.le_refl _) hl, List.drop_eq_nil_of_le (by simp; omega)]
  simp
theorem outM_hit {α : Type} {l : List α} {p : Nat} {new : List α} (hl : p < l.length) : outM l p (p + 1) new (p + 1) = outM l p (p + 1) new p ++ new := by
  unfold outM
  rw [if_pos (by omega), if_neg (by omega), Nat.min_eq_right (by omega), Nat.min_self, List.drop_eq_nil_of_le (by simp; omega), List.drop_eq_nil_of_le (by simp; omega)]
  simp
theorem outM_hi {α : Type} {l : List α} {p q : Nat} {new : List α} {j : Nat} (hq : q ≤ j) (hj : p < j) (hl : j < l.length) : outM l p q new (j + 1) = outM l p q new j ++ [l[j]] := by
  unfold outM
  rw [if_pos (by omega), if_pos (by omega), Nat.min_eq_right (by omega), Nat.min_eq_right (by omega), drop_take_snocM hq hl]
  simp
theorem outM_end {α : Type} {l : List α} {p q : Nat} {new : List α} (hp : p < l.length) : outM l p q new l.length = l.take p ++ (new ++ l.drop q) := by
  unfold outM
  rw [if_pos hp, Nat.min_eq_right (by omega), List.take_length]
theorem outM_end' {α : Type} {l : List α} {p q : Nat} {new : List α} (hp : p = l.length) (hq : p ≤ q) : outM l p q new l.length ++ new = l.take p ++ (new ++ l.drop q) := by
  unfold outM
  rw [if_neg (by omega), Nat.min_eq_left (by omega), List.take_length, List.drop_eq_nil_of_le (by omega)]
  subst hp
  simp
theorem outM_len {α : Type} {l : List α} {p q : Nat} {new : List α} (j : Nat) (hn : new.length ≤ 1) : (outM l p q new j).length ≤ 2 * l.length + 1 := by
  unfold outM
  simp only [List.length_append, List.length_take, List.length_drop]
  split <;> simp <;> omega
attribute [local irreducible] OpOK AWops AW CondB Go2 AFn thenA inBlockA noGotoA orderOk wantedA
set_option maxRecDepth 100000 in
set_option maxHeartbeats 8000000 in
theorem a_ref06add (l : List Msg) (m : Msg) (h : Bf l) (hm : m.key.ok = true) (hl : l.length ≤ 1000000000) : AFn Tryz.prog 37 [msgsA l, m.av] (msgsA (bfAdd l m)) := by
  refine AFn_intro Tryz.func37 rfl Tryz.ntmps37 rfl (by simp) [_] rfl fun E hE => ?_
  have hnt : (!true) = false := rfl
  have hnf : (!false) = true := rfl
  have hple := bfAt_le m.key l
  have hlo : ∀ j (hj : j < l.length), j < bfAt m.key l → refCmp l[j].key m.key < 0 := fun j hj c => by
    rw [refCmp_rank (Msg.spec (h.ok _ (List.getElem_mem hj))).2.2.1 hm, sgn_neg]; exact (bfAt_iff h.srt j hj).1 c
  have hhi : ∀ j (hj : j < l.length), bfAt m.key l < j → 0 < refCmp l[j].key m.key := fun j hj c => by
    rw [refCmp_rank (Msg.spec (h.ok _ (List.getElem_mem hj))).2.2.1 hm, sgn_pos]
    have h1 := h.srt.lt (by omega) hj c
    have h2 := bfAt_iff (k := m.key) h.srt (bfAt m.key l) (by omega)
    omega
  by_cases e : ∃ hi : bfAt m.key l < l.length, l[bfAt m.key l].key = m.key
  · obtain ⟨hi, e⟩ := e
    rw [add_hit h.srt m hi e]
    have h0 : refCmp l[bfAt m.key l].key m.key = 0 := by rw [refCmp_rank (Msg.spec (h.ok _ (List.getElem_mem hi))).2.2.1 hm, e, sgn_same]
    generalize bfAt m.key l = p at hi e h0 hlo hhi hple ⊢
    refine wB ?_
    refine AW_go (Go2.token 5 5 28 31 rfl rfl) ?_
    refine AW_loopI (fun j : Nat => ⟨[(0, msgsA l), (3, .ptr 3 0 []), (5, .sl (some 5) 29 ((outM l p (p + 1) [composeM l[p] m] j).map Msg.av)), (6, boolA (decide (p < j))), (7, intA j)], [(3, .var m.av), (5, .tail 31 29 (outM l p (p + 1) [composeM l[p] m] j).length)]⟩) (fun j => j ≤ l.length) (fun j => l.length - j) 0 (Nat.zero_le _) (by rw [outM_zero, decide_eq_false (Nat.not_lt_zero p)]; (refine Go2.sub ⟨?_, ?_⟩ <;> repeat' (first | exact True.intro | rfl | apply And.intro))) (fun j hj => ?_)
    have hol := outM_len (l := l) (p := p) (q := p + 1) (new := [composeM l[p] m]) j (by simp)
    by_cases c : j < l.length
    · have d3 := acall Tryz.func31 (a_refcmp l[j].key m.key) (by decide +kernel) (by decide +kernel)
      rcases Nat.lt_trichotomy j p with c1 | c1 | c1
      · have hc := hlo j c c1
        have hs := outM_lo (new := [composeM l[p] m]) (Nat.le_succ p) c1 c
        refine wB ?_
        refine ⟨j + 1, c, by omega, ?_⟩
        rw [hs, show decide (p < j + 1) = decide (p < j) from by rw [decide_eq_false (by omega), decide_eq_false (by omega)]]
        (refine Go2.sub ⟨?_, ?_⟩ <;> repeat' (first | exact True.intro | rfl | apply And.intro))
      · obtain rfl : j = p := c1
        have hs := outM_hit (new := [composeM l[j] m]) c
        have d4 := acall Tryz.func65 (a_refcompose l[j] m) (by decide +kernel) (by decide +kernel)
        refine wB ?_
        refine ⟨j + 1, c, by omega, ?_⟩
        rw [hs, decide_eq_true (Nat.lt_succ_self j)]
        (refine Go2.sub ⟨?_, ?_⟩ <;> repeat' (first | exact True.intro | rfl | apply And.intro))
      · have hc := hhi j c c1
        have hb : (!decide (p < j)) = false := by simp; omega
        have hs := outM_hi (new := [composeM l[p] m]) (show p + 1 ≤ j by omega) c1 c
        refine wB ?_
        refine ⟨j + 1, c, by omega, ?_⟩
        rw [hs, show decide (p < j + 1) = decide (p < j) from by rw [decide_eq_true (by omega), decide_eq_true (by omega)]]
        (refine Go2.sub ⟨?_, ?_⟩ <;> repeat' (first | exact True.intro | rfl | apply And.intro))
    · obtain rfl : j = l.length := by omega
      have hb : (!decide (p < l.length)) = false := by simp; omega
      rw [← outM_end hi]
      refine wB ?_
      exact fin ⟨res_sl rfl, trivial⟩
  · have hn : ∀ hi : bfAt m.key l < l.length, l[bfAt m.key l].key ≠ m.key := fun hi e' => e ⟨hi, e'⟩
    rw [add_no h m hm hn]
    have h0 : ∀ hi : bfAt m.key l < l.length, 0 < refCmp l[bfAt m.key l].key m.key := fun hi => by
      have ho := (Msg.spec (h.ok _ (List.getElem_mem hi))).2.2.1
      rw [refCmp_rank ho hm, sgn_pos]
      have h1 := (bfAt_iff (k := m.key) h.srt _ hi)
      have h2 : l[bfAt m.key l].key.rank ≠ m.key.rank := fun e' => hn hi ((rank_inj ho hm).1 e')
      omega
    generalize bfAt m.key l = p at h0 hlo hhi hple hn ⊢
    refine wB ?_
    refine AW_go (Go2.token 5 5 28 31 rfl rfl) ?_
    refine AW_loopI (fun j : Nat => ⟨[(0, msgsA l), (3, .ptr 3 0 []), (5, .sl (some 5) 29 ((outM l p p [m] j).map Msg.av)), (6, boolA (decide (p < j))), (7, intA j)], [(3, .var m.av), (5, .tail 31 29 (outM l p p [m] j).length)]⟩) (fun j => j ≤ l.length) (fun j => l.length - j) 0 (Nat.zero_le _) (by rw [outM_zero, decide_eq_false (Nat.not_lt_zero p)]; (refine Go2.sub ⟨?_, ?_⟩ <;> repeat' (first | exact True.intro | rfl | apply And.intro))) (fun j hj => ?_)
    have hol := outM_len (l := l) (p := p) (q := p) (new := [m]) j (by simp)
    by_cases c : j < l.length
    · have d3 := acall Tryz.func31 (a_refcmp l[j].key m.key) (by decide +kernel) (by decide +kernel)
      rcases Nat.lt_trichotomy j p with c1 | c1 | c1
      · have hc := hlo j c c1
        have hs := outM_lo (new := [m]) (Nat.le_refl p) c1 c
        refine wB ?_
        refine ⟨j + 1, c, by omega, ?_⟩
        rw [hs, show decide (p < j + 1) = decide (p < j) from by rw [decide_eq_false (by omega), decide_eq_false (by omega)]]
        (refine Go2.sub ⟨?_, ?_⟩ <;> repeat' (first | exact True.intro | rfl | apply And.intro))
      · obtain rfl : j = p := c1
        have hs := outM_no (new := [m]) c
        have hc := h0 c
        have hb : (!decide (j < j)) = true := by simp
        have hn1 : (outM l j j [m] j ++ [m]).length ≤ 2 * l.length + 2 := by simp; omega
        refine wB ?_
        refine ⟨j + 1, c, by omega, ?_⟩
        rw [hs, decide_eq_true (Nat.lt_succ_self j)]
        (refine Go2.sub ⟨?_, ?_⟩ <;> repeat' (first | exact True.intro | rfl | apply And.intro))
      · have hc := hhi j c c1
        have hb : (!decide (p < j)) = false := by simp; omega
        have hs := outM_hi (new := [m]) (show p ≤ j by omega) c1 c
        refine wB ?_
        refine ⟨j + 1, c, by omega, ?_⟩
        rw [hs, show decide (p < j + 1) = decide (p < j) from by rw [decide_eq_true (by omega), decide_eq_true (by omega)]]
        (refine Go2.sub ⟨?_, ?_⟩ <;> repeat' (first | exact True.intro | rfl | apply And.intro))
    · obtain rfl : j = l.length := by omega
      by_cases e : p < l.length
      · have hb : (!decide (p < l.length)) = false := by simp; omega
        rw [← outM_end e]
        refine wB ?_
        exact fin ⟨res_sl rfl, trivial⟩
      · have hb : (!decide (p < l.length)) = true := by simp; omega
        have hs := outM_end' (new := [m]) (show p = l.length by omega) (Nat.le_refl p)
        rw [← hs]
        refine wB ?_
        exact fin ⟨res_sl rfl, trivial⟩
set_option maxRecDepth 100000 in
set_option maxHeartbeats 8000000 in
theorem a_ref06bytes (l : List Msg) (hl : l.length ≤ 100000000) : AFn Tryz.prog 67 [msgsA l] (intA (bSum l)) := by
  refine AFn_intro Tryz.func67 rfl Tryz.ntmps67 rfl (by simp) [_] rfl fun E hE => ?_
  refine wB ?_
  refine AW_loopI (fun j : Nat => ⟨[(0, msgsA l), (3, intA (bSum (l.take j))), (4, intA j)], []⟩) (fun j => j ≤ l.length) (fun j => l.length - j) 0 (Nat.zero_le _) (by (refine Go2.sub ⟨?_, ?_⟩ <;> repeat' (first | exact True.intro | rfl | apply And.intro))) (fun j hj => ?_)
  have hb := bSum_le (l.take j)
  rw [List.length_take] at hb
  by_cases c : j < l.length
  · have hs := bSum_snoc l j c
    have he := l[j].size_le
    have d1 := acall Tryz.func94 (a_ref05bytes l[j]) (by decide +kernel) (by decide +kernel)
    refine wB ?_
    refine ⟨j + 1, c, by omega, ?_⟩
    rw [hs]
    (refine Go2.sub ⟨?_, ?_⟩ <;> repeat' (first | exact True.intro | rfl | apply And.intro))
  · obtain rfl : j = l.length := by omega
    rw [List.take_length]
    refine wB ?_
    exact fin ⟨res_of rfl rfl rfl, trivial⟩
theorem bfAll_snoc (l ms : List Msg) (j : Nat) (h : j < ms.length) : bfAll l (ms.take (j + 1)) = bfAdd (bfAll l (ms.take j)) ms[j] := by
  unfold bfAll
  rw [← List.take_append_getElem h, List.foldl_append]
  rfl
set_option maxRecDepth 100000 in
set_option maxHeartbeats 8000000 in
theorem a_ref06all (l ms : List Msg) (h : Bf l) (hm : ∀ m ∈ ms, m.ok = true) (hl : l.length ≤ 100000000) (hl2 : ms.length ≤ 100000000) : AFn Tryz.prog 81 [msgsA l, msgsA ms] (msgsA (bfAll l ms)) := by
  refine AFn_intro Tryz.func81 rfl Tryz.ntmps81 rfl (by simp) [_] rfl fun E hE => ?_
  refine wB ?_
  refine AW_go (Go2.weak 5 rfl) ?_
  refine AW_loopI (fun j : Nat => ⟨[(1, msgsA ms), (5, msgsA (bfAll l (ms.take j))), (6, intA j)], []⟩) (fun j => j ≤ ms.length) (fun j => ms.length - j) 0 (Nat.zero_le _) (by (refine Go2.sub ⟨?_, ?_⟩ <;> repeat' (first | exact True.intro | rfl | apply And.intro))) (fun j hj => ?_)
  have hlen := ball_len (ms.take j) l
  rw [List.length_take] at hlen
  have hlf := bf_all (ms := ms.take j) h (fun m hm' => hm m (List.mem_of_mem_take hm'))
  by_cases c : j < ms.length
  · have hmj := Msg.spec (hm ms[j] (List.getElem_mem c))
    have hs := bfAll_snoc l ms j c
    have d1 := acall Tryz.func37 (a_ref06add (bfAll l (ms.take j)) ms[j] hlf hmj.2.2.1 (by omega)) (by decide +kernel) (by decide +kernel)
    refine wB ?_
    refine ⟨j + 1, c, by omega, ?_⟩
    rw [hs]
    (refine Go2.sub ⟨?_, ?_⟩ <;> repeat' (first | exact True.intro | rfl | apply And.intro))
  · obtain rfl : j = ms.length := by omega
    rw [List.take_length]
    refine wB ?_
    exact fin ⟨res_sl rfl, trivial⟩
end Go.Proofs.YtonjbnoeoececaaGreat

namespace Go.Proofs.YtonjbnoeoececaaGreat
open Go Go.RowKit
set_option linter.unusedVariables false
set_option linter.unusedSimpArgs false
set_option maxRecDepth 100000

def opM (o : Option Msg) : Msg × Bool := match o with
  | some m => (m, true)
  | none => (Msg.zero, false)
/-- messages of a buffer, by neighbours -/
def MsgsOk (cmp : Key → Key → Int) (l : List Msg) : Prop := ∀ j (h : j < l.length), l[j].ok = true ∧ ∀ i (hi : i + 1 = j), cmp (l[i]'(by omega)).key l[j].key < 0
noncomputable def msgsOkB (cmp : Key → Key → Int) (l : List Msg) : Bool := @decide (MsgsOk cmp l) (Classical.propDecidable _)
theorem msgsOkB_true {cmp : Key → Key → Int} {l : List Msg} (h : MsgsOk cmp l) : msgsOkB cmp l = true := by unfold msgsOkB; exact @decide_eq_true _ (Classical.propDecidable _) h
theorem msgsOkB_false {cmp : Key → Key → Int} {l : List Msg} (h : ¬ MsgsOk cmp l) : msgsOkB cmp l = false := by unfold msgsOkB; exact @decide_eq_false _ (Classical.propDecidable _) h
theorem msgsOk_ref (l : List Msg) : MsgsOk refCmp l ↔ MsgsOk keyCmp l := by
  constructor <;>
  · intro h j hj
    obtain ⟨h1, h3⟩ := h j hj
    refine ⟨h1, fun i hi => ?_⟩
    have := h3 i hi
    first
      | rwa [refCmp_key (Msg.spec (h i (by omega)).1).2.2.1 (Msg.spec h1).2.2.1] at this
      | rwa [refCmp_key (Msg.spec (h i (by omega)).1).2.2.1 (Msg.spec h1).2.2.1]
theorem msgsOkB_ref (l : List Msg) : msgsOkB refCmp l = msgsOkB keyCmp l := by
  by_cases c : MsgsOk keyCmp l
  · rw [msgsOkB_true c, msgsOkB_true ((msgsOk_ref l).2 c)]
  · rw [msgsOkB_false c, msgsOkB_false (fun h => c ((msgsOk_ref l).1 h))]
theorem Bf.msgs {l : List Msg} (h : Bf l) : MsgsOk keyCmp l := fun j hj => ⟨h.ok _ (List.getElem_mem hj), fun i hi => by
  rw [keyCmp_rank, sgn_neg]; exact h.srt.lt (by omega) hj (by omega)⟩
theorem msgsOk_nok {cmp : Key → Key → Int} {l : List Msg} {j : Nat} (h : j < l.length) (e : l[j].ok = false) : ¬ MsgsOk cmp l := fun k => by
  have := (k j h).1
  rw [e] at this; cases this
theorem msgsOk_noc {cmp : Key → Key → Int} {l : List Msg} {i : Nat} (h : i + 1 < l.length) (e : 0 ≤ cmp l[i].key l[i + 1].key) : ¬ MsgsOk cmp l := fun k => by
  have := (k (i + 1) h).2 i rfl
  omega
theorem av_one (s : BitVec 64) (k : Key) (v : Vl) : (⟨1, s, k, v, 0#64⟩ : Msg).av = .agg 29 [intA 1, u64A s, k.av, v.av, .v (.int .u64 0)] := by
  unfold Msg.av u64A; rw [D64_zero]
theorem res_yes {P : Program} {S : St} {t : Nat} {p : Prop} [Decidable p] (hx : S.t t = some (.v (.bool (decide p)))) (hp : p) : Res1 P S (.tmp t) (boolA true) := res_of (by rw [hx, decide_eq_true hp]; rfl) rfl rfl
theorem res_no {P : Program} {S : St} {t : Nat} {p : Prop} [Decidable p] (hx : S.t t = some (.v (.bool (decide p)))) (hp : ¬ p) : Res1 P S (.tmp t) (boolA false) := res_of (by rw [hx, decide_eq_false hp]; rfl) rfl rfl
attribute [local irreducible] OpOK AWops AW CondB Go2 AFn thenA inBlockA noGotoA orderOk wantedA
set_option maxRecDepth 100000 in
set_option maxHeartbeats 4000000 in
theorem a_msgcheck (m : Msg) : AFn Tryz.prog 106 [m.av] (boolA m.ok) := by
  refine AFn_intro Tryz.func106 rfl Tryz.ntmps106 rfl (by simp) [_] rfl fun E hE => ?_
  have c1 := acall Tryz.func114 (a_keycheck m.key) (by decide +kernel) (by decide +kernel)
  have c2 := acall Tryz.func115 (a_vlcheck m.val) (by decide +kernel) (by decide +kernel)
  by_cases p : m.kind = 1
  · cases hk : m.key.ok with
    | false =>
      rw [Msg.nok hk]
      rw [hk] at c1
      refine wC ?_
      exact fin ⟨res_of rfl rfl rfl, trivial⟩
    | true =>
      rw [hk] at c1
      cases hv : m.val.ok with
      | false =>
        rw [Msg.nov p hv]
        rw [hv] at c2
        refine wC ?_
        exact fin ⟨res_of rfl rfl rfl, trivial⟩
      | true =>
        rw [Msg.okPut p hk hv]
        rw [hv] at c2
        refine wC ?_
        exact fin ⟨res_of rfl rfl rfl, trivial⟩
  by_cases p2 : m.kind = 2
  · cases hk : m.key.ok with
    | false =>
      rw [Msg.nok hk]
      rw [hk] at c1
      refine wC ?_
      exact fin ⟨res_of rfl rfl rfl, trivial⟩
    | true =>
      rw [hk] at c1
      by_cases z : m.val = Vl.zero
      · rw [Msg.okDel p2 hk z]
        by_cases ha : D64 m.add = 0
        · rw [decide_eq_true ha]
          refine wC ?_
          exact fin ⟨res_yes rfl z, trivial⟩
        · rw [decide_eq_false ha]
          refine wC ?_
          exact fin ⟨res_of rfl rfl rfl, trivial⟩
      · rw [Msg.noz p z]
        by_cases ha : D64 m.add = 0
        · refine wC ?_
          exact fin ⟨res_no rfl z, trivial⟩
        · refine wC ?_
          exact fin ⟨res_of rfl rfl rfl, trivial⟩
  by_cases p3 : m.kind = 3
  · cases hk : m.key.ok with
    | false =>
      rw [Msg.nok hk]
      rw [hk] at c1
      refine wC ?_
      exact fin ⟨res_of rfl rfl rfl, trivial⟩
    | true =>
      rw [hk] at c1
      by_cases z : m.val = Vl.zero
      · rw [Msg.okAdd p3 hk z]
        refine wC ?_
        exact fin ⟨res_yes rfl z, trivial⟩
      · rw [Msg.noz p z]
        refine wC ?_
        exact fin ⟨res_no rfl z, trivial⟩
  · have hno : m.ok = false := by
      by_cases h1 : m.kind < 1
      · exact Msg.no1 h1
      · exact Msg.no3 (by omega)
    rw [hno]
    refine wC ?_
    exact fin ⟨res_of rfl rfl rfl, trivial⟩
set_option maxRecDepth 100000 in
set_option maxHeartbeats 4000000 in
theorem a_msgbytes (m : Msg) : AFn Tryz.prog 97 [m.av] (intA m.size) := by
  refine AFn_intro Tryz.func97 rfl Tryz.ntmps97 rfl (by simp) [_] rfl fun E hE => ?_
  have c1 := acall Tryz.func106 (a_msgcheck m) (by decide +kernel) (by decide +kernel)
  unfold Msg.size
  cases hk : m.ok with
  | false =>
    rw [if_neg (by simp)]
    rw [hk] at c1
    have k' : (!false) = true := rfl
    refine wC ?_
    exact fin ⟨res_of rfl rfl rfl, trivial⟩
  | true =>
    rw [if_pos rfl]
    rw [hk] at c1
    have k' : (!true) = false := rfl
    obtain ⟨q1, q2, q3, q4, _⟩ := Msg.spec hk
    have n1 := Key.n_le q3
    have n2 := Vl.n_le q4
    by_cases p : m.kind = 1
    · rw [if_pos p, show 11 + m.key.n + m.val.n = 10 + m.key.n + (1 + m.val.n) from by omega]
      refine wC ?_
      exact fin ⟨res_of rfl rfl rfl, trivial⟩
    · rw [if_neg p]
      by_cases p3 : m.kind = 3
      · rw [if_pos p3, show 18 + m.key.n = 10 + m.key.n + 8 from by omega]
        refine wC ?_
        exact fin ⟨res_of rfl rfl rfl, trivial⟩
      · rw [if_neg p3]
        refine wC ?_
        exact fin ⟨res_of rfl rfl rfl, trivial⟩
set_option maxRecDepth 100000 in
set_option maxHeartbeats 4000000 in
theorem a_msgcompose (o n : Msg) (ho : o.ok = true) (hn : n.ok = true) : AFn Tryz.prog 111 [o.av, n.av] (composeM o n).av := by
  have c1 := a_plus Vl.zero n.add
  rw [vplus_zero] at c1
  have s1 := Msg.spec ho
  have s2 := Msg.spec hn
  unfold composeM
  by_cases p : n.kind ≠ 3
  · rw [if_pos (.inl p)]
    refine AFn_intro Tryz.func111 rfl Tryz.ntmps111 rfl (by simp) [_] rfl fun E hE => ?_
    have d1 := acall Tryz.func118 (c1) (by decide +kernel) (by decide +kernel)
    have d2 := acall Tryz.func118 (a_plus o.val n.add) (by decide +kernel) (by decide +kernel)
    refine wC ?_
    exact fin ⟨res_var rfl rfl rfl rfl, trivial⟩
  by_cases q : o.key ≠ n.key
  · rw [if_pos (.inr q)]
    refine AFn_intro Tryz.func111 rfl Tryz.ntmps111 rfl (by simp) [_] rfl fun E hE => ?_
    have d1 := acall Tryz.func118 (c1) (by decide +kernel) (by decide +kernel)
    have d2 := acall Tryz.func118 (a_plus o.val n.add) (by decide +kernel) (by decide +kernel)
    refine wC ?_
    exact fin ⟨res_var rfl rfl rfl rfl, trivial⟩
  rw [if_neg (by simp only [not_or]; exact ⟨p, q⟩)]
  by_cases p1 : o.kind = 1
  · rw [if_pos p1, av_one]
    refine AFn_intro Tryz.func111 rfl Tryz.ntmps111 rfl (by simp) [_] rfl fun E hE => ?_
    have d1 := acall Tryz.func118 (c1) (by decide +kernel) (by decide +kernel)
    have d2 := acall Tryz.func118 (a_plus o.val n.add) (by decide +kernel) (by decide +kernel)
    refine wC ?_
    exact fin ⟨res_var rfl rfl rfl rfl, trivial⟩
  rw [if_neg p1]
  by_cases p2 : o.kind = 2
  · rw [if_pos p2, av_one]
    refine AFn_intro Tryz.func111 rfl Tryz.ntmps111 rfl (by simp) [_] rfl fun E hE => ?_
    have d1 := acall Tryz.func118 (c1) (by decide +kernel) (by decide +kernel)
    have d2 := acall Tryz.func118 (a_plus o.val n.add) (by decide +kernel) (by decide +kernel)
    refine wC ?_
    exact fin ⟨res_var rfl rfl rfl rfl, trivial⟩
  rw [if_neg p2]
  have p3 : o.kind = 3 := by omega
  have n3 : n.kind = 3 := by omega
  have e : (⟨3, n.seq, n.key, Vl.zero, o.add + n.add⟩ : Msg).av = .agg 29 [intA n.kind, u64A n.seq, n.key.av, n.val.av, u64A (n.add + o.add)] := by
    unfold Msg.av
    rw [n3, s2.2.2.2.2.1 (by omega), BitVec.add_comm]
  rw [e]
  refine AFn_intro Tryz.func111 rfl Tryz.ntmps111 rfl (by simp) [_] rfl fun E hE => ?_
  have d1 := acall Tryz.func118 (c1) (by decide +kernel) (by decide +kernel)
  have d2 := acall Tryz.func118 (a_plus o.val n.add) (by decide +kernel) (by decide +kernel)
  refine wC ?_
  exact fin ⟨res_var rfl rfl rfl rfl, trivial⟩
end Go.Proofs.YtonjbnoeoececaaGreat

namespace Go.Proofs.YtonjbnoeoececaaGreat
open Go Go.RowKit
set_option linter.unusedVariables false
set_option linter.unusedSimpArgs false
set_option maxRecDepth 100000

attribute [local irreducible] OpOK AWops AW CondB Go2 AFn thenA inBlockA noGotoA orderOk wantedA
set_option maxRecDepth 100000 in
set_option maxHeartbeats 4000000 in
theorem a_ref06find (l : List Msg) (k : Key) (h : BSrt l) (hl : l.length ≤ 1000000000) : AFn Tryz.prog 56 [msgsA l, k.av] (.tup [(opM (bfGet k l)).1.av, boolA (opM (bfGet k l)).2]) := by
  refine AFn_intro Tryz.func56 rfl Tryz.ntmps56 rfl (by simp) [_, _] rfl fun E hE => ?_
  refine wL ?_
  refine AW_loopI (fun j : Nat => ⟨[(0, msgsA l), (3, .ptr 3 0 []), (4, .ptr 4 0 []), (6, intA j)], [(3, .var k.av), (4, .var Msg.zero.av)]⟩) (fun j => j ≤ l.length ∧ ∀ i (hi : i < l.length), i < j → l[i].key ≠ k) (fun j => l.length - j) 0 ⟨Nat.zero_le _, fun i _ h => by omega⟩ (by (refine Go2.sub ⟨?_, ?_⟩ <;> repeat' (first | exact True.intro | rfl | apply And.intro))) (fun j hj => ?_)
  obtain ⟨j1, j2⟩ := hj
  by_cases c : j < l.length
  · by_cases q : l[j].key = k
    · rw [bget_hit h c q]
      refine wL ?_
      exact fin ⟨res_var rfl rfl rfl rfl, res_of rfl rfl rfl, trivial⟩
    · refine wL ?_
      refine ⟨j + 1, ⟨c, fun i hi hij => ?_⟩, by omega, ?_⟩
      · by_cases e : i = j
        · subst e; exact q
        · exact j2 i hi (by omega)
      · (refine Go2.sub ⟨?_, ?_⟩ <;> repeat' (first | exact True.intro | rfl | apply And.intro))
  · rw [bget_none (fun i hi => j2 i hi (by omega))]
    refine wL ?_
    exact fin ⟨res_var rfl rfl rfl rfl, res_of rfl rfl rfl, trivial⟩
set_option maxRecDepth 100000 in
set_option maxHeartbeats 8000000 in
theorem a_bufbytes (l : List Msg) (hl : l.length ≤ 100000000) : AFn Tryz.prog 147 [msgsA l] (intA (bSum l)) := by
  refine AFn_intro Tryz.func147 rfl Tryz.ntmps147 rfl (by simp) [_] rfl fun E hE => ?_
  refine wB ?_
  refine AW_loopI (fun j : Nat => ⟨[(6, msgsA l), (7, intA l.length), (8, intA j), (3, intA (bSum (l.take j)))], []⟩) (fun j => j ≤ l.length) (fun j => l.length - j) 0 (Nat.zero_le _) (by (refine Go2.sub ⟨?_, ?_⟩ <;> repeat' (first | exact True.intro | rfl | apply And.intro))) (fun j hj => ?_)
  have hb := bSum_le (l.take j)
  rw [List.length_take] at hb
  by_cases c : j < l.length
  · have hs := bSum_snoc l j c
    have he := l[j].size_le
    have d1 := acall Tryz.func97 (a_msgbytes l[j]) (by decide +kernel) (by decide +kernel)
    refine wB ?_
    refine ⟨j + 1, c, by omega, ?_⟩
    rw [hs]
    (refine Go2.sub ⟨?_, ?_⟩ <;> repeat' (first | exact True.intro | rfl | apply And.intro))
  · obtain rfl : j = l.length := by omega
    rw [List.take_length]
    refine wB ?_
    exact fin ⟨res_of rfl rfl rfl, trivial⟩
set_option maxRecDepth 100000 in
set_option maxHeartbeats 8000000 in
theorem a_ref06same (l : List Msg) (hl : l.length ≤ 100000000) : AFn Tryz.prog 71 [msgsA l, msgsA l] (boolA true) := by
  refine AFn_intro Tryz.func71 rfl Tryz.ntmps71 rfl (by simp) [_] rfl fun E hE => ?_
  refine wL ?_
  refine AW_loopI (fun j : Nat => ⟨[(0, msgsA l), (1, msgsA l), (5, intA j)], []⟩) (fun j => j ≤ l.length) (fun j => l.length - j) 0 (Nat.zero_le _) (by (refine Go2.sub ⟨?_, ?_⟩ <;> repeat' (first | exact True.intro | rfl | apply And.intro))) (fun j hj => ?_)
  by_cases c : j < l.length
  · have hs : ¬ l[j] ≠ l[j] := fun h => h rfl
    refine wL ?_
    refine ⟨j + 1, c, by omega, ?_⟩
    (refine Go2.sub ⟨?_, ?_⟩ <;> repeat' (first | exact True.intro | rfl | apply And.intro))
  · refine wL ?_
    exact fin ⟨res_of rfl rfl rfl, trivial⟩
set_option maxRecDepth 100000 in
set_option maxHeartbeats 8000000 in
theorem a_bufadd (l : List Msg) (m : Msg) (h : Bf l) (hm : m.ok = true) (hl : l.length ≤ 1000000000) : AFn Tryz.prog 104 [msgsA l, m.av] (msgsA (bfAdd l m)) := by
  refine AFn_intro Tryz.func104 rfl Tryz.ntmps104 rfl (by simp) [_] rfl fun E hE => ?_
  have hk := (Msg.spec hm).2.2.1
  have cp := a_bufplace l m.key h.srt hl
  have hple := bfAt_le m.key l
  by_cases e : ∃ hi : bfAt m.key l < l.length, l[bfAt m.key l].key = m.key
  · obtain ⟨hi, e⟩ := e
    rw [add_hit h.srt m hi e]
    rw [bfHit_at hi, decide_eq_true e] at cp
    generalize bfAt m.key l = p at cp hple hi e ⊢
    have hd : (l.drop (p + 1)).length ≤ l.length := by rw [List.length_drop]; omega
    have hp : (l.take p).length ≤ l.length := by rw [List.length_take]; omega
    have cc := a_msgcompose l[p] m (h.ok _ (List.getElem_mem hi)) hm
    generalize composeM l[p] m = M at cc ⊢
    have d1 := acall Tryz.func98 (cp) (by decide +kernel) (by decide +kernel)
    have d2 := acall Tryz.func111 (cc) (by decide +kernel) (by decide +kernel)
    rw [← List.append_assoc]
    refine wL ?_
    exact fin ⟨res_sl rfl, trivial⟩
  · have hn : ∀ hi : bfAt m.key l < l.length, l[bfAt m.key l].key ≠ m.key := fun hi e' => e ⟨hi, e'⟩
    rw [add_no h m hk hn]
    have cp' : AFn Tryz.prog 98 [msgsA l, m.key.av] (.tup [intA (bfAt m.key l : Nat), boolA false]) := by
      by_cases hi : bfAt m.key l < l.length
      · rwa [bfHit_at hi, decide_eq_false (hn hi)] at cp
      · rwa [bfHit_end hi] at cp
    clear cp hn e
    generalize bfAt m.key l = p at cp' hple ⊢
    have hd : (l.drop p).length ≤ l.length := by rw [List.length_drop]; omega
    have hp : (l.take p).length ≤ l.length := by rw [List.length_take]; omega
    have d1 := acall Tryz.func98 (cp') (by decide +kernel) (by decide +kernel)
    rw [← List.append_assoc]
    refine wL ?_
    exact fin ⟨res_sl rfl, trivial⟩
set_option maxRecDepth 100000 in
set_option maxHeartbeats 8000000 in
theorem a_bufall (l ms : List Msg) (h : Bf l) (hm : ∀ m ∈ ms, m.ok = true) (hl : l.length ≤ 100000000) (hl2 : ms.length ≤ 100000000) : AFn Tryz.prog 91 [msgsA l, msgsA ms] (msgsA (bfAll l ms)) := by
  refine AFn_intro Tryz.func91 rfl Tryz.ntmps91 rfl (by simp) [_] rfl fun E hE => ?_
  refine wB ?_
  refine AW_loopI (fun j : Nat => ⟨[(0, msgsA (bfAll l (ms.take j))), (7, msgsA ms), (8, intA ms.length), (9, intA j)], []⟩) (fun j => j ≤ ms.length) (fun j => ms.length - j) 0 (Nat.zero_le _) (by (refine Go2.sub ⟨?_, ?_⟩ <;> repeat' (first | exact True.intro | rfl | apply And.intro))) (fun j hj => ?_)
  have hlen := ball_len (ms.take j) l
  rw [List.length_take] at hlen
  have hlf := bf_all (ms := ms.take j) h (fun m hm' => hm m (List.mem_of_mem_take hm'))
  by_cases c : j < ms.length
  · have hmj := hm ms[j] (List.getElem_mem c)
    have hs := bfAll_snoc l ms j c
    have d1 := acall Tryz.func104 (a_bufadd (bfAll l (ms.take j)) ms[j] hlf hmj (by omega)) (by decide +kernel) (by decide +kernel)
    refine wB ?_
    refine ⟨j + 1, c, by omega, ?_⟩
    rw [hs]
    (refine Go2.sub ⟨?_, ?_⟩ <;> repeat' (first | exact True.intro | rfl | apply And.intro))
  · obtain rfl : j = ms.length := by omega
    rw [List.take_length]
    refine wB ?_
    exact fin ⟨res_sl rfl, trivial⟩
end Go.Proofs.YtonjbnoeoececaaGreat

namespace Go.Proofs.YtonjbnoeoececaaGreat
open Go Go.RowKit
set_option linter.unusedVariables false
set_option linter.unusedSimpArgs false
set_option maxRecDepth 100000

/-! ### parts -/
def pFrom (cuts : List Key) (l : List Msg) : Nat → Nat
  | 0 => 0
  | m + 1 => match cuts[m]? with
    | some k => bfAt k l
    | none => 0
def pTo (cuts : List Key) (l : List Msg) (n : Nat) : Nat := match cuts[n]? with
  | some k => bfAt k l
  | none => l.length
def bfPart (l : List Msg) (cuts : List Key) (n : Nat) : List Msg := (l.take (pTo cuts l n)).drop (pFrom cuts l n)
def keepLo (cuts : List Key) (m : Msg) : Nat → Bool
  | 0 => true
  | i + 1 => match cuts[i]? with
    | some k => decide (k.rank ≤ m.key.rank)
    | none => true
def keepHi (cuts : List Key) (m : Msg) (n : Nat) : Bool := match cuts[n]? with
  | some k => decide (m.key.rank < k.rank)
  | none => true
theorem take_filter_ge {k : Key} : ∀ {l : List Msg} (t : Nat), BSrt l → (l.take t).filter (fun e => decide (k.rank ≤ e.key.rank)) = (l.take t).drop (bfAt k l)
  | [], t, _ => by simp
  | e :: l, 0, _ => by simp
  | e :: l, t + 1, h => by
    rw [List.take_succ_cons, bfAt_cons]
    by_cases c : e.key.rank < k.rank
    · rw [if_pos c, List.filter_cons_of_neg (by simp; omega), List.drop_succ_cons, take_filter_ge t h.tail]
    · have hz : bfAt k l = 0 := bfAt_zero fun b hb => by have := h.head b hb; omega
      rw [if_neg c, hz, List.drop_zero, List.filter_eq_self]
      intro b hb
      rcases List.mem_cons.1 hb with rfl | hb
      · simp; omega
      · have := h.head b (List.mem_of_mem_take hb)
        simp; omega
theorem part_filter {l : List Msg} (h : BSrt l) (cuts : List Key) (n : Nat) : l.filter (fun m => keepLo cuts m n && keepHi cuts m n) = bfPart l cuts n := by
  have e1 : l.filter (fun m => keepHi cuts m n) = l.take (pTo cuts l n) := by
    unfold keepHi pTo
    cases hc : cuts[n]? with
    | none => simp
    | some k => exact bflt_lo h
  have e2 : l.filter (fun m => keepLo cuts m n && keepHi cuts m n) = (l.filter (fun m => keepHi cuts m n)).filter (fun m => keepLo cuts m n) := by rw [List.filter_filter]
  rw [e2, e1]
  unfold bfPart
  cases n with
  | zero => simp [keepLo, pFrom]
  | succ m =>
    cases hc : cuts[m]? with
    | none => simp [keepLo, pFrom, hc]
    | some k =>
      simp only [keepLo, pFrom, hc]
      exact take_filter_ge _ h
theorem filter_snoc {l : List Msg} (f : Msg → Bool) (j : Nat) (h : j < l.length) : (l.take (j + 1)).filter f = (l.take j).filter f ++ (if f l[j] then [l[j]] else []) := by
  rw [← List.take_append_getElem h, List.filter_append]
  simp only [List.filter_cons, List.filter_nil]
/-! ### batches -/
def batchF (l : List Msg) : Nat → Nat → Nat
  | 0, a => a
  | f + 1, a => if a < l.length ∧ bSum (l.take (a + 1)) ≤ 96 then batchF l f (a + 1) else a
def batchN (l : List Msg) : Nat := batchF l l.length 0
theorem batchF_on {l : List Msg} {f a : Nat} (h : a < l.length ∧ bSum (l.take (a + 1)) ≤ 96) : batchF l (f + 1) a = batchF l f (a + 1) := by rw [batchF, if_pos h]
theorem batchF_off {l : List Msg} {f a : Nat} (h : ¬ (a < l.length ∧ bSum (l.take (a + 1)) ≤ 96)) : batchF l (f + 1) a = a := by rw [batchF, if_neg h]
theorem batchF_le (l : List Msg) : ∀ f a, a ≤ l.length → batchF l f a ≤ l.length ∧ a ≤ batchF l f a ∧ (l.length ≤ f + a → batchF l f a < l.length → 96 < bSum (l.take (batchF l f a + 1))) ∧ (a = batchF l f a ∨ bSum (l.take (batchF l f a)) ≤ 96)
  | 0, a, h => ⟨h, Nat.le_refl _, fun h1 h2 => by unfold batchF at h2; omega, .inl rfl⟩
  | f + 1, a, h => by
    by_cases c : a < l.length ∧ bSum (l.take (a + 1)) ≤ 96
    · rw [batchF_on c]
      obtain ⟨h1, h2, h3, h4⟩ := batchF_le l f (a + 1) c.1
      refine ⟨h1, by omega, fun e => h3 (by omega), .inr ?_⟩
      rcases h4 with h4 | h4
      · rw [← h4]; exact c.2
      · exact h4
    · rw [batchF_off c]
      exact ⟨h, Nat.le_refl _, fun _ h2 => Int.not_le.1 fun h3 => c ⟨h2, h3⟩, .inl rfl⟩
/-! ### what is left -/
def goneP (gone : List Msg) (m : Msg) : Bool := !(bfGet m.key gone).isSome
def bfLess (l gone : List Msg) : List Msg := l.filter (goneP gone)
theorem hit_some {l : List Msg} (h : BSrt l) (k : Key) : bfHit k l = (bfGet k l).isSome := by
  by_cases e : bfAt k l < l.length
  · rw [bfHit_at e]
    by_cases q : l[bfAt k l].key = k
    · rw [bget_hit h e q, decide_eq_true q]; rfl
    · rw [bget_no h (fun _ => q), decide_eq_false q]; rfl
  · rw [bfHit_end e, bget_no h (fun hi => absurd hi e)]; rfl
theorem opM_some (o : Option Msg) : (opM o).2 = o.isSome := by cases o <;> rfl
section
variable {E : Env} {nt : Nat} {ops : Array Oper} {T : Nat → Option AV} {H : Hp} {d : Option Nat} {ty : TypeId} {pos : String} {af : Array Edge} {gd : Option (Nat × Bool)}
theorem o_cut3 {α : Type} {f : α → AV} {t e : TypeId} {es bytes : Nat} {ea : Bool} {x lo hi mx : Operand} {tok : Option Nat} {xs : List α} {k k' k'' : IntKind} {a b : Nat} (hd : dOk nt d = true) (hs : tabT.ti t = some (.sl e es bytes ea)) (hx : evalO T x = some (.sl tok es (xs.map f))) (hlo : evalO T lo = some (.v (.int k (a : Nat)))) (hhi : evalO T hi = some (.v (.int k' (b : Nat)))) (hmx : evalO T mx = some (.v (.int k'' (b : Nat)))) (h1 : a ≤ b) (h2 : b ≤ xs.length) :
    OpOK Tryz.prog E nt ops ⟨d, .slice t x (some lo) (some hi) (some mx), ty, pos, af, gd⟩ T H [] ⟨.sl none es (((xs.take b).drop a).map f), []⟩ := by
  have := ok_cut tabT (E := E) (ops := ops) (H := H) (ty := ty) (pos := pos) (af := af) (gd := gd) (m := b) hd hs hx (bnd_nat hlo) (bnd_nat hhi) (.inr ⟨bnd_nat hmx, Nat.le_refl _, by simpa using h2, rfl, rfl⟩) h1 (by simpa using h2)
  rwa [← List.map_take, ← List.map_drop] at this
theorem o_cut3h {α : Type} {f : α → AV} {t e : TypeId} {es bytes : Nat} {ea : Bool} {x hi mx : Operand} {tok : Option Nat} {xs : List α} {k' k'' : IntKind} {b : Nat} (hd : dOk nt d = true) (hs : tabT.ti t = some (.sl e es bytes ea)) (hx : evalO T x = some (.sl tok es (xs.map f))) (hhi : evalO T hi = some (.v (.int k' (b : Nat)))) (hmx : evalO T mx = some (.v (.int k'' (b : Nat)))) (h2 : b ≤ xs.length) :
    OpOK Tryz.prog E nt ops ⟨d, .slice t x none (some hi) (some mx), ty, pos, af, gd⟩ T H [] ⟨.sl none es ((xs.take b).map f), []⟩ := by
  have := ok_cut tabT (E := E) (ops := ops) (H := H) (ty := ty) (pos := pos) (af := af) (gd := gd) (m := b) hd hs hx (bnd_none (d := 0)) (bnd_nat hhi) (.inr ⟨bnd_nat hmx, Nat.le_refl _, by simpa using h2, rfl, rfl⟩) (Nat.zero_le _) (by simpa using h2)
  rwa [← List.map_take, List.drop_zero] at this
end
attribute [local irreducible] OpOK AWops AW CondB Go2 AFn thenA inBlockA noGotoA orderOk wantedA
set_option maxRecDepth 100000 in
set_option maxHeartbeats 8000000 in
theorem a_bufbatch (l : List Msg) (hl : l.length ≤ 100000000) : AFn Tryz.prog 75 [msgsA l] (msgsA (l.take (batchN l))) := by
  refine AFn_intro Tryz.func75 rfl Tryz.ntmps75 rfl (by simp) [_] rfl fun E hE => ?_
  refine wB ?_
  refine AW_loopI (fun j : Nat => ⟨[(0, msgsA l), (3, intA j), (4, intA (bSum (l.take j)))], []⟩) (fun j => j ≤ l.length ∧ batchF l (l.length - j) j = batchN l) (fun j => l.length - j) 0 ⟨Nat.zero_le _, rfl⟩ (by (refine Go2.sub ⟨?_, ?_⟩ <;> repeat' (first | exact True.intro | rfl | apply And.intro))) (fun j hj => ?_)
  obtain ⟨j1, j2⟩ := hj
  have hb := bSum_le (l.take j)
  rw [List.length_take] at hb
  by_cases c : j < l.length
  · have hs := bSum_snoc l j c
    have he := l[j].size_le
    have d1 := acall Tryz.func97 (a_msgbytes l[j]) (by decide +kernel) (by decide +kernel)
    rw [show l.length - j = (l.length - (j + 1)) + 1 by omega] at j2
    by_cases q : bSum (l.take j) + l[j].size ≤ 96
    · rw [batchF_on ⟨c, by omega⟩] at j2
      refine wB ?_
      refine ⟨j + 1, ⟨c, j2⟩, by omega, ?_⟩
      rw [hs]
      (refine Go2.sub ⟨?_, ?_⟩ <;> repeat' (first | exact True.intro | rfl | apply And.intro))
    · rw [batchF_off (fun h => q (by omega))] at j2
      rw [← j2]
      refine wB ?_
      (apply Wv; (focus (exact o_cut3h rfl rfl rfl rfl rfl (by omega))); (focus (first | exact want_n | exact want_g rfl (by with_reducible rfl))))
      refine wB ?_
      exact fin ⟨res_sl rfl, trivial⟩
  · obtain rfl : j = l.length := by omega
    rw [Nat.sub_self, batchF] at j2
    rw [← j2]
    refine wB ?_
    (apply Wv; (focus (exact o_cut3h rfl rfl rfl rfl rfl (by omega))); (focus (first | exact want_n | exact want_g rfl (by with_reducible rfl))))
    refine wB ?_
    exact fin ⟨res_sl rfl, trivial⟩
set_option maxRecDepth 100000 in
set_option maxHeartbeats 8000000 in
theorem a_ref06batch (l : List Msg) (hl : l.length ≤ 100000000) : AFn Tryz.prog 78 [msgsA l] (msgsA (l.take (batchN l))) := by
  refine AFn_intro Tryz.func78 rfl Tryz.ntmps78 rfl (by simp) [_] rfl fun E hE => ?_
  refine wB ?_
  refine AW_go (Go2.token 3 3 28 31 rfl rfl) ?_
  refine AW_loopI (fun j : Nat => ⟨[(0, msgsA l), (3, .sl (some 3) 29 ((l.take j).map Msg.av)), (4, intA (bSum (l.take j))), (5, intA j)], [(3, .tail 31 29 (l.take j).length)]⟩) (fun j => j ≤ l.length ∧ batchF l (l.length - j) j = batchN l) (fun j => l.length - j) 0 ⟨Nat.zero_le _, rfl⟩ (by (refine Go2.sub ⟨?_, ?_⟩ <;> repeat' (first | exact True.intro | rfl | apply And.intro))) (fun j hj => ?_)
  obtain ⟨j1, j2⟩ := hj
  have hb := bSum_le (l.take j)
  have ht : (l.take j).length ≤ l.length := by rw [List.length_take]; omega
  rw [List.length_take] at hb
  by_cases c : j < l.length
  · have hs := bSum_snoc l j c
    have he := l[j].size_le
    have hq := List.take_append_getElem c
    have d1 := acall Tryz.func94 (a_ref05bytes l[j]) (by decide +kernel) (by decide +kernel)
    rw [show l.length - j = (l.length - (j + 1)) + 1 by omega] at j2
    by_cases q : bSum (l.take j) + l[j].size ≤ 96
    · rw [batchF_on ⟨c, by omega⟩] at j2
      refine wB ?_
      refine ⟨j + 1, ⟨c, j2⟩, by omega, ?_⟩
      rw [hs, ← hq]
      (refine Go2.sub ⟨?_, ?_⟩ <;> repeat' (first | exact True.intro | rfl | apply And.intro))
    · rw [batchF_off (fun h => q (by omega))] at j2
      rw [← j2]
      refine wB ?_
      exact fin ⟨res_sl rfl, trivial⟩
  · obtain rfl : j = l.length := by omega
    rw [Nat.sub_self, batchF] at j2
    rw [← j2]
    refine wB ?_
    exact fin ⟨res_sl rfl, trivial⟩
set_option maxRecDepth 100000 in
set_option maxHeartbeats 8000000 in
theorem a_bufless (l gone : List Msg) (h : BSrt gone) (hl : l.length ≤ 100000000) (hl2 : gone.length ≤ 100000000) : AFn Tryz.prog 77 [msgsA l, msgsA gone] (msgsA (bfLess l gone)) := by
  refine AFn_intro Tryz.func77 rfl Tryz.ntmps77 rfl (by simp) [_] rfl fun E hE => ?_
  have hnt : (!true) = false := rfl
  have hnf : (!false) = true := rfl
  refine wB ?_
  refine AW_go (Go2.token 5 5 28 31 rfl rfl) ?_
  refine AW_loopI (fun j : Nat => ⟨[(1, msgsA gone), (10, msgsA l), (11, intA l.length), (12, intA j), (5, .sl (some 5) 29 (((l.take j).filter (goneP gone)).map Msg.av))], [(5, .tail 31 29 ((l.take j).filter (goneP gone)).length)]⟩) (fun j => j ≤ l.length) (fun j => l.length - j) 0 (Nat.zero_le _) (by (refine Go2.sub ⟨?_, ?_⟩ <;> repeat' (first | exact True.intro | rfl | apply And.intro))) (fun j hj => ?_)
  have hfl := List.length_filter_le (goneP gone) (l.take j)
  rw [List.length_take] at hfl
  by_cases c : j < l.length
  · have hs := filter_snoc (goneP gone) j c
    have cp := a_bufplace gone l[j].key h (by omega)
    rw [hit_some h] at cp
    cases q : (bfGet l[j].key gone).isSome with
    | true =>
      have hg : goneP gone l[j] = false := by unfold goneP; rw [q]; rfl
      rw [q] at cp
      rw [hg] at hs
      simp only [Bool.false_eq_true, if_false, List.append_nil] at hs
      have d1 := acall Tryz.func98 (cp) (by decide +kernel) (by decide +kernel)
      refine wB ?_
      refine ⟨j + 1, c, by omega, ?_⟩
      rw [hs]
      (refine Go2.sub ⟨?_, ?_⟩ <;> repeat' (first | exact True.intro | rfl | apply And.intro))
    | false =>
      have hg : goneP gone l[j] = true := by unfold goneP; rw [q]; rfl
      rw [q] at cp
      rw [hg] at hs
      simp only [if_true] at hs
      have d1 := acall Tryz.func98 (cp) (by decide +kernel) (by decide +kernel)
      refine wB ?_
      refine ⟨j + 1, c, by omega, ?_⟩
      rw [hs]
      (refine Go2.sub ⟨?_, ?_⟩ <;> repeat' (first | exact True.intro | rfl | apply And.intro))
  · obtain rfl : j = l.length := by omega
    rw [List.take_length]
    refine wB ?_
    exact fin ⟨res_sl rfl, trivial⟩
set_option maxRecDepth 100000 in
set_option maxHeartbeats 8000000 in
theorem a_ref06less (l gone : List Msg) (h : BSrt gone) (hl : l.length ≤ 100000000) (hl2 : gone.length ≤ 100000000) : AFn Tryz.prog 79 [msgsA l, msgsA gone] (msgsA (bfLess l gone)) := by
  refine AFn_intro Tryz.func79 rfl Tryz.ntmps79 rfl (by simp) [_] rfl fun E hE => ?_
  have hnt : (!true) = false := rfl
  have hnf : (!false) = true := rfl
  refine wB ?_
  refine AW_go (Go2.token 5 5 28 31 rfl rfl) ?_
  refine AW_loopI (fun j : Nat => ⟨[(0, msgsA l), (1, msgsA gone), (6, intA j), (5, .sl (some 5) 29 (((l.take j).filter (goneP gone)).map Msg.av))], [(5, .tail 31 29 ((l.take j).filter (goneP gone)).length)]⟩) (fun j => j ≤ l.length) (fun j => l.length - j) 0 (Nat.zero_le _) (by (refine Go2.sub ⟨?_, ?_⟩ <;> repeat' (first | exact True.intro | rfl | apply And.intro))) (fun j hj => ?_)
  have hfl := List.length_filter_le (goneP gone) (l.take j)
  rw [List.length_take] at hfl
  by_cases c : j < l.length
  · have hs := filter_snoc (goneP gone) j c
    have cp := a_ref06find gone l[j].key h (by omega)
    rw [opM_some] at cp
    cases q : (bfGet l[j].key gone).isSome with
    | true =>
      have hg : goneP gone l[j] = false := by unfold goneP; rw [q]; rfl
      rw [q] at cp
      rw [hg] at hs
      simp only [Bool.false_eq_true, if_false, List.append_nil] at hs
      have d1 := acall Tryz.func56 (cp) (by decide +kernel) (by decide +kernel)
      refine wB ?_
      refine ⟨j + 1, c, by omega, ?_⟩
      rw [hs]
      (refine Go2.sub ⟨?_, ?_⟩ <;> repeat' (first | exact True.intro | rfl | apply And.intro))
    | false =>
      have hg : goneP gone l[j] = true := by unfold goneP; rw [q]; rfl
      rw [q] at cp
      rw [hg] at hs
      simp only [if_true] at hs
      have d1 := acall Tryz.func56 (cp) (by decide +kernel) (by decide +kernel)
      refine wB ?_
      refine ⟨j + 1, c, by omega, ?_⟩
      rw [hs]
      (refine Go2.sub ⟨?_, ?_⟩ <;> repeat' (first | exact True.intro | rfl | apply And.intro))
  · obtain rfl : j = l.length := by omega
    rw [List.take_length]
    refine wB ?_
    exact fin ⟨res_sl rfl, trivial⟩
end Go.Proofs.YtonjbnoeoececaaGreat

namespace Go.Proofs.YtonjbnoeoececaaGreat
open Go Go.RowKit
set_option linter.unusedVariables false
set_option linter.unusedSimpArgs false
set_option maxRecDepth 100000

theorem kids_no (ks : List Int) (cs : List Key) (cmp : Key → Key → Int) (j : Nat) (h : j < ks.length) (hJ : kidsFrom ks 0 ks = kidsFrom ks j (ks.drop j)) (e : ks[j] < 1 ∨ 256 ≤ ks[j] ∨ idxOf ks ks[j] ≠ (j : Int)) : fanOkBy cmp ks cs = false := by
  unfold fanOkBy
  rw [hJ, kidsFrom_step ks ks j h]
  rcases e with e | e | e
  · rw [show decide (1 ≤ ks[j]) = false from decide_eq_false (by omega)]; simp
  · rw [show decide (ks[j] < 256) = false from decide_eq_false (by omega)]; simp
  · rw [show decide (idxOf ks ks[j] = (j : Int)) = false from decide_eq_false e]; simp
theorem kids_on (ks : List Int) (j : Nat) (h : j < ks.length) (hJ : kidsFrom ks 0 ks = kidsFrom ks j (ks.drop j)) (e1 : ¬ ks[j] < 1) (e2 : ¬ 256 ≤ ks[j]) (e3 : idxOf ks ks[j] = (j : Int)) : kidsFrom ks 0 ks = kidsFrom ks (j + 1) (ks.drop (j + 1)) := by
  rw [hJ, kidsFrom_step ks ks j h, show decide (1 ≤ ks[j]) = true from decide_eq_true (by omega), show decide (ks[j] < 256) = true from decide_eq_true (by omega), show decide (idxOf ks ks[j] = (j : Int)) = true from decide_eq_true e3]
  simp
theorem fan_no (ks : List Int) (cs : List Key) (cmp : Key → Key → Int) (e : ks.length < 2 ∨ 4 < ks.length ∨ cs.length + 1 ≠ ks.length) : fanOkBy cmp ks cs = false := by
  unfold fanOkBy
  rcases e with e | e | e
  · rw [show decide (2 ≤ ks.length) = false from decide_eq_false (by omega)]; simp
  · rw [show decide (ks.length ≤ 4) = false from decide_eq_false (by omega)]; simp
  · rw [show decide (cs.length + 1 = ks.length) = false from decide_eq_false e]; simp
theorem fan_on (ks : List Int) (cs : List Key) (cmp : Key → Key → Int) (h2 : 2 ≤ ks.length) (h4 : ks.length ≤ 4) (hc : cs.length + 1 = ks.length) (hk : kidsFrom ks 0 ks = true) : fanOkBy cmp ks cs = risesBy cmp none cs := by
  unfold fanOkBy
  rw [decide_eq_true h2, decide_eq_true h4, decide_eq_true hc, hk]; simp
theorem rise_no0 (cmp : Key → Key → Int) (cs : List Key) (j : Nat) (h : j < cs.length) (hJ : risesBy cmp none cs = risesBy cmp (ahead cs j) (cs.drop j)) (e : cs[j].ok = false) : risesBy cmp none cs = false := by
  cases j with
  | zero => rw [hJ, risesBy_step0 cmp cs h, e]; rfl
  | succ m => rw [hJ, risesBy_step cmp cs m h, e]; rfl
theorem rise_no1 (cmp : Key → Key → Int) (cs : List Key) (m : Nat) (h : m + 1 < cs.length) (hJ : risesBy cmp none cs = risesBy cmp (ahead cs (m + 1)) (cs.drop (m + 1))) (e : 0 ≤ cmp cs[m] cs[m + 1]) : risesBy cmp none cs = false := by
  rw [hJ, risesBy_step cmp cs m h, show decide (cmp cs[m] cs[m + 1] < 0) = false from decide_eq_false (by omega)]; simp
theorem rise_on0 (cmp : Key → Key → Int) (cs : List Key) (h : 0 < cs.length) (hJ : risesBy cmp none cs = risesBy cmp (ahead cs 0) (cs.drop 0)) (e : cs[0].ok = true) : risesBy cmp none cs = risesBy cmp (ahead cs 1) (cs.drop 1) := by
  rw [hJ, risesBy_step0 cmp cs h, e]; simp
theorem rise_on1 (cmp : Key → Key → Int) (cs : List Key) (m : Nat) (h : m + 1 < cs.length) (hJ : risesBy cmp none cs = risesBy cmp (ahead cs (m + 1)) (cs.drop (m + 1))) (e : cs[m + 1].ok = true) (c : ¬ 0 ≤ cmp cs[m] cs[m + 1]) : risesBy cmp none cs = risesBy cmp (ahead cs (m + 2)) (cs.drop (m + 2)) := by
  rw [hJ, risesBy_step cmp cs m h, e, show decide (cmp cs[m] cs[m + 1] < 0) = true from decide_eq_true (by omega)]; simp
attribute [local irreducible] OpOK AWops AW CondB Go2 AFn thenA inBlockA noGotoA orderOk wantedA
set_option maxRecDepth 100000 in
theorem a_index (l : List Int) (x : Int) (hl : l.length ≤ 1000000000000000000) : AFn Tryz.prog 99 [intsA l, intA x] (intA (idxOf l x)) := by
  refine AFn_intro Tryz.func99 rfl Tryz.ntmps99 rfl (by simp) [_] rfl fun E hE => ?_
  refine wO ?_
  refine AW_loopI (fun j : Nat => ⟨[(0, intsA l), (1, intA x), (7, intA l.length), (8, intA j)], []⟩) (fun j => j ≤ l.length ∧ idxOf l x = idxFrom x j (l.drop j)) (fun j => l.length - j) 0 ⟨Nat.zero_le _, rfl⟩ (by (refine Go2.sub ⟨?_, ?_⟩ <;> repeat' (first | exact True.intro | rfl | apply And.intro))) (fun j hj => ?_)
  obtain ⟨hj, hJ⟩ := hj
  by_cases hlt : j < l.length
  · by_cases he : x = l[j]
    · rw [hJ, idxFrom_hit l x j hlt he.symm]
      refine wO ?_
      exact fin ⟨res_of rfl rfl rfl, trivial⟩
    · refine wO ?_
      refine ⟨j + 1, ⟨hlt, by rw [hJ, idxFrom_miss l x j hlt (fun h => he h.symm)]⟩, by omega, ?_⟩
      (refine Go2.sub ⟨?_, ?_⟩ <;> repeat' (first | exact True.intro | rfl | apply And.intro))
  · rw [hJ, idxFrom_end l x j (by omega)]
    refine wO ?_
    exact fin ⟨res_of rfl rfl rfl, trivial⟩
set_option maxRecDepth 100000 in
theorem a_place (l : List Int) (x : Int) (hl : l.length ≤ 1000000000000000000) : AFn Tryz.prog 82 [intsA l, intA x] (intA (idxOf l x)) := by
  refine AFn_intro Tryz.func82 rfl Tryz.ntmps82 rfl (by simp) [_] rfl fun E hE => ?_
  have c := acall Tryz.func99 (a_index l x hl) (by decide +kernel) (by decide +kernel)
  refine wO ?_
  exact fin ⟨res_of rfl rfl rfl, trivial⟩
set_option maxRecDepth 100000 in
theorem a_refplace (l : List Int) (x : Int) (hl : l.length ≤ 1000000000000000000) : AFn Tryz.prog 86 [intsA l, intA x] (intA (idxOf l x)) := by
  refine AFn_intro Tryz.func86 rfl Tryz.ntmps86 rfl (by simp) [_] rfl fun E hE => ?_
  refine wO ?_
  refine AW_loopI (fun j : Nat => ⟨[(0, intsA l), (1, intA x), (5, intA j)], []⟩) (fun j => j ≤ l.length ∧ idxOf l x = idxFrom x j (l.drop j)) (fun j => l.length - j) 0 ⟨Nat.zero_le _, rfl⟩ (by (refine Go2.sub ⟨?_, ?_⟩ <;> repeat' (first | exact True.intro | rfl | apply And.intro))) (fun j hj => ?_)
  obtain ⟨hj, hJ⟩ := hj
  by_cases hlt : j < l.length
  · by_cases he : l[j] = x
    · rw [hJ, idxFrom_hit l x j hlt he]
      refine wO ?_
      exact fin ⟨res_of rfl rfl rfl, trivial⟩
    · refine wO ?_
      refine ⟨j + 1, ⟨hlt, by rw [hJ, idxFrom_miss l x j hlt he]⟩, by omega, ?_⟩
      (refine Go2.sub ⟨?_, ?_⟩ <;> repeat' (first | exact True.intro | rfl | apply And.intro))
  · rw [hJ, idxFrom_end l x j (by omega)]
    refine wO ?_
    exact fin ⟨res_of rfl rfl rfl, trivial⟩
set_option maxRecDepth 100000 in
set_option maxHeartbeats 4000000 in
theorem a_fancheck (ks : List Int) (cs : List Key) : AFn Tryz.prog 148 [intsA ks, keysA cs] (boolA (fanOkBy keyCmp ks cs)) := by
  refine AFn_intro Tryz.func148 rfl Tryz.ntmps148 rfl (by simp) [_] rfl fun E hE => ?_
  by_cases c1 : ks.length < 2
  · rw [fan_no ks cs keyCmp (by omega)]
    refine wO ?_
    exact fin ⟨res_of rfl rfl rfl, trivial⟩
  by_cases c2 : 4 < ks.length
  · rw [fan_no ks cs keyCmp (by omega)]
    refine wO ?_
    exact fin ⟨res_of rfl rfl rfl, trivial⟩
  by_cases c3 : cs.length + 1 = ks.length
  · refine wO ?_
    refine AW_loopI (fun j : Nat => ⟨[(0, intsA ks), (1, keysA cs), (25, intsA ks), (26, intA ks.length), (27, intA j)], []⟩) (fun j => j ≤ ks.length ∧ kidsFrom ks 0 ks = kidsFrom ks j (ks.drop j)) (fun j => ks.length - j) 0 ⟨Nat.zero_le _, rfl⟩ (by (refine Go2.sub ⟨?_, ?_⟩ <;> repeat' (first | exact True.intro | rfl | apply And.intro))) (fun j hj => ?_)
    obtain ⟨hj, hJ⟩ := hj
    by_cases hlt : j < ks.length
    · have cp := acall Tryz.func82 (a_place ks ks[j] (by omega)) (by decide +kernel) (by decide +kernel)
      by_cases e1 : ks[j] < 1
      · rw [kids_no ks cs keyCmp j hlt hJ (by omega)]
        refine wO ?_
        exact fin ⟨res_of rfl rfl rfl, trivial⟩
      by_cases e2 : 256 ≤ ks[j]
      · rw [kids_no ks cs keyCmp j hlt hJ (by omega)]
        refine wO ?_
        exact fin ⟨res_of rfl rfl rfl, trivial⟩
      by_cases e3 : idxOf ks ks[j] = (j : Int)
      · refine wO ?_
        refine ⟨j + 1, ⟨hlt, kids_on ks j hlt hJ e1 e2 e3⟩, by omega, ?_⟩
        (refine Go2.sub ⟨?_, ?_⟩ <;> repeat' (first | exact True.intro | rfl | apply And.intro))
      · rw [kids_no ks cs keyCmp j hlt hJ (by omega)]
        refine wO ?_
        exact fin ⟨res_of rfl rfl rfl, trivial⟩
    · rw [kidsFrom_end ks ks j (by omega)] at hJ
      rw [fan_on ks cs keyCmp (by omega) (by omega) c3 hJ]
      refine wO ?_
      refine AW_loopI (fun j : Nat => ⟨[(1, keysA cs), (46, keysA cs), (47, intA cs.length), (48, intA j)], []⟩) (fun j => j ≤ cs.length ∧ risesBy keyCmp none cs = risesBy keyCmp (ahead cs j) (cs.drop j)) (fun j => cs.length - j) 0 ⟨Nat.zero_le _, rfl⟩ (by (refine Go2.sub ⟨?_, ?_⟩ <;> repeat' (first | exact True.intro | rfl | apply And.intro))) (fun j hj => ?_)
      obtain ⟨hj, hJ⟩ := hj
      by_cases hlt : j < cs.length
      · have ck := acall Tryz.func114 (a_keycheck cs[j]) (by decide +kernel) (by decide +kernel)
        cases hko : cs[j].ok with
        | false =>
          have hk' : (!cs[j].ok) = true := by rw [hko]; rfl
          rw [rise_no0 keyCmp cs j hlt hJ hko]
          refine wO ?_
          exact fin ⟨res_of rfl rfl rfl, trivial⟩
        | true =>
          have hk' : (!cs[j].ok) = false := by rw [hko]; rfl
          cases j with
          | zero =>
            refine wO ?_
            refine ⟨1, ⟨hlt, rise_on0 keyCmp cs hlt hJ hko⟩, by omega, ?_⟩
            (refine Go2.sub ⟨?_, ?_⟩ <;> repeat' (first | exact True.intro | rfl | apply And.intro))
          | succ m =>
            have hm : m < cs.length := by omega
            have cc := acall Tryz.func109 (a_keycmp cs[m] cs[m + 1]) (by decide +kernel) (by decide +kernel)
            by_cases c : 0 ≤ keyCmp cs[m] cs[m + 1]
            · rw [rise_no1 keyCmp cs m hlt hJ c]
              refine wO ?_
              exact fin ⟨res_of rfl rfl rfl, trivial⟩
            · refine wO ?_
              refine ⟨m + 2, ⟨hlt, rise_on1 keyCmp cs m hlt hJ hko c⟩, by omega, ?_⟩
              (refine Go2.sub ⟨?_, ?_⟩ <;> repeat' (first | exact True.intro | rfl | apply And.intro))
      · rw [risesBy_end keyCmp cs _ j (by omega)] at hJ
        rw [hJ]
        refine wO ?_
        exact fin ⟨res_of rfl rfl rfl, trivial⟩
  · rw [fan_no ks cs keyCmp (by omega)]
    refine wO ?_
    exact fin ⟨res_of rfl rfl rfl, trivial⟩
set_option maxRecDepth 100000 in
set_option maxHeartbeats 4000000 in
theorem a_reffancheck (ks : List Int) (cs : List Key) : AFn Tryz.prog 73 [intsA ks, keysA cs] (boolA (fanOkBy refCmp ks cs)) := by
  refine AFn_intro Tryz.func73 rfl Tryz.ntmps73 rfl (by simp) [_] rfl fun E hE => ?_
  by_cases c1 : ks.length < 2
  · rw [fan_no ks cs refCmp (by omega)]
    refine wO ?_
    exact fin ⟨res_of rfl rfl rfl, trivial⟩
  by_cases c2 : 4 < ks.length
  · rw [fan_no ks cs refCmp (by omega)]
    refine wO ?_
    exact fin ⟨res_of rfl rfl rfl, trivial⟩
  by_cases c3 : cs.length + 1 = ks.length
  · refine wO ?_
    refine AW_loopI (fun j : Nat => ⟨[(0, intsA ks), (1, keysA cs), (5, intA j)], []⟩) (fun j => j ≤ ks.length ∧ kidsFrom ks 0 ks = kidsFrom ks j (ks.drop j)) (fun j => ks.length - j) 0 ⟨Nat.zero_le _, rfl⟩ (by (refine Go2.sub ⟨?_, ?_⟩ <;> repeat' (first | exact True.intro | rfl | apply And.intro))) (fun j hj => ?_)
    obtain ⟨hj, hJ⟩ := hj
    by_cases hlt : j < ks.length
    · have cp := acall Tryz.func86 (a_refplace ks ks[j] (by omega)) (by decide +kernel) (by decide +kernel)
      by_cases e1 : ks[j] < 1
      · rw [kids_no ks cs refCmp j hlt hJ (by omega)]
        refine wO ?_
        exact fin ⟨res_of rfl rfl rfl, trivial⟩
      by_cases e2 : 256 ≤ ks[j]
      · rw [kids_no ks cs refCmp j hlt hJ (by omega)]
        refine wO ?_
        exact fin ⟨res_of rfl rfl rfl, trivial⟩
      by_cases e3 : idxOf ks ks[j] = (j : Int)
      · refine wO ?_
        refine ⟨j + 1, ⟨hlt, kids_on ks j hlt hJ e1 e2 e3⟩, by omega, ?_⟩
        (refine Go2.sub ⟨?_, ?_⟩ <;> repeat' (first | exact True.intro | rfl | apply And.intro))
      · rw [kids_no ks cs refCmp j hlt hJ (by omega)]
        refine wO ?_
        exact fin ⟨res_of rfl rfl rfl, trivial⟩
    · rw [kidsFrom_end ks ks j (by omega)] at hJ
      rw [fan_on ks cs refCmp (by omega) (by omega) c3 hJ]
      refine wO ?_
      refine AW_loopI (fun j : Nat => ⟨[(1, keysA cs), (6, intA j)], []⟩) (fun j => j ≤ cs.length ∧ risesBy refCmp none cs = risesBy refCmp (ahead cs j) (cs.drop j)) (fun j => cs.length - j) 0 ⟨Nat.zero_le _, rfl⟩ (by (refine Go2.sub ⟨?_, ?_⟩ <;> repeat' (first | exact True.intro | rfl | apply And.intro))) (fun j hj => ?_)
      obtain ⟨hj, hJ⟩ := hj
      by_cases hlt : j < cs.length
      · have ck := acall Tryz.func93 (a_refkeycheck cs[j]) (by decide +kernel) (by decide +kernel)
        cases hko : cs[j].ok with
        | false =>
          have hk' : (!cs[j].ok) = true := by rw [hko]; rfl
          rw [rise_no0 refCmp cs j hlt hJ hko]
          refine wO ?_
          exact fin ⟨res_of rfl rfl rfl, trivial⟩
        | true =>
          have hk' : (!cs[j].ok) = false := by rw [hko]; rfl
          cases j with
          | zero =>
            refine wO ?_
            refine ⟨1, ⟨hlt, rise_on0 refCmp cs hlt hJ hko⟩, by omega, ?_⟩
            (refine Go2.sub ⟨?_, ?_⟩ <;> repeat' (first | exact True.intro | rfl | apply And.intro))
          | succ m =>
            have hm : m < cs.length := by omega
            have cc := acall Tryz.func31 (a_refcmp cs[m] cs[m + 1]) (by decide +kernel) (by decide +kernel)
            by_cases c : 0 ≤ refCmp cs[m] cs[m + 1]
            · rw [rise_no1 refCmp cs m hlt hJ c]
              refine wO ?_
              exact fin ⟨res_of rfl rfl rfl, trivial⟩
            · refine wO ?_
              refine ⟨m + 2, ⟨hlt, rise_on1 refCmp cs m hlt hJ hko c⟩, by omega, ?_⟩
              (refine Go2.sub ⟨?_, ?_⟩ <;> repeat' (first | exact True.intro | rfl | apply And.intro))
      · rw [risesBy_end refCmp cs _ j (by omega)] at hJ
        rw [hJ]
        refine wO ?_
        exact fin ⟨res_of rfl rfl rfl, trivial⟩
  · rw [fan_no ks cs refCmp (by omega)]
    refine wO ?_
    exact fin ⟨res_of rfl rfl rfl, trivial⟩
end Go.Proofs.YtonjbnoeoececaaGreat

namespace Go.Proofs.YtonjbnoeoececaaGreat
open Go Go.RowKit
set_option linter.unusedVariables false
set_option linter.unusedSimpArgs false
set_option maxRecDepth 100000

theorem flat_take {α : Type} (l : List (List α)) (j : Nat) (h : j < l.length) : (l.take (j + 1)).flatten = (l.take j).flatten ++ l[j] := by
  rw [List.take_succ_eq_append_getElem h, List.flatten_append]; simp
theorem flat_le {α : Type} (l : List (List α)) (j : Nat) : (l.take j).flatten.length ≤ l.flatten.length := by
  conv => rhs; rw [← List.take_append_drop j l, List.flatten_append, List.length_append]
  omega
def insKids (ks : List Int) (i : Nat) (id : Int) : List Int := ks.take (i + 1) ++ ([id] ++ ks.drop (i + 1))
def insCuts (cs : List Key) (at_ : Nat) (x : Key) : List Key := cs.take at_ ++ ([x] ++ cs.drop at_)
def fanIns (ks : List Int) (cs : List Key) (i : Int) (x : Key) (id : Int) : List Int × List Key :=
  if 0 ≤ i ∧ i < ks.length then (insKids ks i.toNat id, insCuts cs (min i.toNat cs.length) x) else (ks, cs)
attribute [local irreducible] OpOK AWops AW CondB Go2 AFn thenA inBlockA noGotoA orderOk wantedA
set_option maxRecDepth 100000 in
theorem a_joinInts (xss : List (List Int)) (hl : xss.length ≤ 1000000) (hb : xss.flatten.length ≤ 1000000000000) : AFn Tryz.prog 84 [.sl none 1 (xss.map intsA)] (intsA xss.flatten) := by
  refine AFn_intro Tryz.func84 rfl Tryz.ntmps84 rfl (by simp) [_] rfl fun E hE => ?_
  refine wO ?_
  refine AW_go (Go2.token 3 3 0 3 rfl rfl) ?_
  refine AW_loopI (fun j : Nat => ⟨[(6, .sl none 1 (xss.map intsA)), (7, intA xss.length), (8, intA j), (3, .sl (some 3) 1 ((xss.take j).flatten.map intA))], [(3, .tail 3 1 (xss.take j).flatten.length)]⟩) (fun j => j ≤ xss.length) (fun j => xss.length - j) 0 (Nat.zero_le _) (by (refine Go2.sub ⟨?_, ?_⟩ <;> repeat' (first | exact True.intro | rfl | apply And.intro))) (fun j hj => ?_)
  have hle := flat_le xss (j + 1)
  by_cases hlt : j < xss.length
  · have hs := flat_take xss j hlt
    rw [hs, List.length_append] at hle
    refine wO ?_
    refine ⟨j + 1, hlt, by omega, ?_⟩
    (refine Go2.sub ⟨?_, ?_⟩ <;> repeat' (first | exact True.intro | rfl | apply And.intro))
    all_goals (rw [hs]; rfl)
  · refine wO ?_
    have : j = xss.length := by omega
    subst this
    exact fin ⟨res_sl (by rw [List.take_length]; rfl), trivial⟩
set_option maxRecDepth 100000 in
theorem a_joinKeys (xss : List (List Key)) (hl : xss.length ≤ 1000000) (hb : xss.flatten.length ≤ 1000000000) : AFn Tryz.prog 85 [.sl none 1 (xss.map keysA)] (keysA xss.flatten) := by
  refine AFn_intro Tryz.func85 rfl Tryz.ntmps85 rfl (by simp) [_] rfl fun E hE => ?_
  refine wO ?_
  refine AW_go (Go2.token 3 3 8 26 rfl rfl) ?_
  refine AW_loopI (fun j : Nat => ⟨[(6, .sl none 1 (xss.map keysA)), (7, intA xss.length), (8, intA j), (3, .sl (some 3) 9 ((xss.take j).flatten.map Key.av))], [(3, .tail 26 9 (xss.take j).flatten.length)]⟩) (fun j => j ≤ xss.length) (fun j => xss.length - j) 0 (Nat.zero_le _) (by (refine Go2.sub ⟨?_, ?_⟩ <;> repeat' (first | exact True.intro | rfl | apply And.intro))) (fun j hj => ?_)
  have hle := flat_le xss (j + 1)
  by_cases hlt : j < xss.length
  · have hs := flat_take xss j hlt
    rw [hs, List.length_append] at hle
    refine wO ?_
    refine ⟨j + 1, hlt, by omega, ?_⟩
    (refine Go2.sub ⟨?_, ?_⟩ <;> repeat' (first | exact True.intro | rfl | apply And.intro))
    all_goals (rw [hs]; rfl)
  · refine wO ?_
    have : j = xss.length := by omega
    subst this
    exact fin ⟨res_sl (by rw [List.take_length]; rfl), trivial⟩
set_option maxRecDepth 100000 in
theorem a_refkid (cs : List Key) (k : Key) (hl : cs.length ≤ 1000000000) : AFn Tryz.prog 29 [keysA cs, k.av] (intA (kidBy refCmp k cs : Nat)) := by
  refine AFn_intro Tryz.func29 rfl Tryz.ntmps29 rfl (by simp) [_] rfl fun E hE => ?_
  refine wO ?_
  refine AW_loopI (fun j : Nat => ⟨[(0, keysA cs), (3, .ptr 3 0 []), (6, intA j), (5, intA (kidBy refCmp k (cs.take j) : Nat))], [(3, .var k.av)]⟩) (fun j => j ≤ cs.length) (fun j => cs.length - j) 0 (Nat.zero_le _) (by (refine Go2.sub ⟨?_, ?_⟩ <;> repeat' (first | exact True.intro | rfl | apply And.intro))) (fun j hj => ?_)
  have hle := kidBy_le refCmp k (cs.take j)
  rw [List.length_take] at hle
  by_cases hlt : j < cs.length
  · have cc := acall Tryz.func31 (a_refcmp cs[j] k) (by decide +kernel) (by decide +kernel)
    by_cases h : refCmp cs[j] k ≤ 0
    · refine wO ?_
      have hs := kidBy_yes refCmp k cs j hlt h
      refine ⟨j + 1, hlt, by omega, ?_⟩
      (refine Go2.sub ⟨?_, ?_⟩ <;> repeat' (first | exact True.intro | rfl | apply And.intro))
      all_goals (rw [hs]; rfl)
    · refine wO ?_
      have hs := kidBy_no refCmp k cs j hlt h
      refine ⟨j + 1, hlt, by omega, ?_⟩
      (refine Go2.sub ⟨?_, ?_⟩ <;> repeat' (first | exact True.intro | rfl | apply And.intro))
      all_goals (rw [hs]; rfl)
  · refine wO ?_
    have : j = cs.length := by omega
    subst this
    exact fin ⟨res_of (by rw [List.take_length]; rfl) rfl rfl, trivial⟩
set_option maxRecDepth 100000 in
theorem a_insert (ks : List Int) (cs : List Key) (i : Int) (x : Key) (id : Int) (h1 : ks.length ≤ 100000000) (h2 : cs.length ≤ 100000000) : AFn Tryz.prog 47 [intsA ks, keysA cs, intA i, x.av, intA id] (.tup [intsA (fanIns ks cs i x id).1, keysA (fanIns ks cs i x id).2]) := by
  refine AFn_intro Tryz.func47 rfl Tryz.ntmps47 rfl (by simp) [_, _] rfl fun E hE => ?_
  by_cases hi : 0 ≤ i ∧ i < ks.length
  · obtain ⟨n, rfl⟩ : ∃ n : Nat, i = (n : Int) := ⟨i.toNat, by omega⟩
    have e : fanIns ks cs n x id = (insKids ks n id, insCuts cs (min n cs.length) x) := by
      unfold fanIns
      rw [if_pos (by omega)]
      simp
    rw [e]
    have hc1 := a_joinInts [ks.take (n + 1), [id], ks.drop (n + 1)] (by simp) (by simp; omega)
    have hc2 := a_joinKeys [cs.take (min n cs.length), [x], cs.drop (min n cs.length)] (by simp) (by simp; omega)
    rw [show [ks.take (n + 1), [id], ks.drop (n + 1)].flatten = insKids ks n id from by simp [insKids]] at hc1
    rw [show [cs.take (min n cs.length), [x], cs.drop (min n cs.length)].flatten = insCuts cs (min n cs.length) x from by simp [insCuts]] at hc2
    have c1 := acall Tryz.func84 (hc1) (by decide +kernel) (by decide +kernel)
    have c2 := acall Tryz.func85 (hc2) (by decide +kernel) (by decide +kernel)
    refine wO ?_
    exact fin ⟨res_sl rfl, res_sl rfl, trivial⟩
  · rw [show fanIns ks cs i x id = (ks, cs) from if_neg hi]
    by_cases h0 : i < 0
    · refine wO ?_
      exact fin ⟨res_sl rfl, res_sl rfl, trivial⟩
    · refine wO ?_
      exact fin ⟨res_sl rfl, res_sl rfl, trivial⟩
def fanHal (ks : List Int) (cs : List Key) : List Int × List Key × Key × List Int × List Key × Bool :=
  if ks.length = 4 ∧ cs.length = 3 then (ks.take 2, cs.take 1, cs.getD 1 Key.zero, ks.drop 2, cs.drop 2, true) else ([], [], Key.zero, [], [], false)
def fanHalA (h : List Int × List Key × Key × List Int × List Key × Bool) : AV := .tup [intsA h.1, keysA h.2.1, h.2.2.1.av, intsA h.2.2.2.1, keysA h.2.2.2.2.1, boolA h.2.2.2.2.2]
set_option maxRecDepth 100000 in
theorem a_halves (ks : List Int) (cs : List Key) (h1 : ks.length ≤ 100000000) (h2 : cs.length ≤ 100000000) : AFn Tryz.prog 87 [intsA ks, keysA cs] (fanHalA (fanHal ks cs)) := by
  refine AFn_intro Tryz.func87 rfl Tryz.ntmps87 rfl (by simp) [_, _, _, _, _, _] rfl fun E hE => ?_
  by_cases h : ks.length = 4 ∧ cs.length = 3
  · obtain ⟨hk, hc⟩ := h
    have c1 := a_joinInts [ks.take 2] (by simp) (by simp; omega)
    have c2 := a_joinInts [ks.drop 2] (by simp) (by simp; omega)
    have c3 := a_joinKeys [cs.take 1] (by simp) (by simp; omega)
    have c4 := a_joinKeys [cs.drop 2] (by simp) (by simp; omega)
    rw [show [ks.take 2].flatten = ks.take 2 from by simp] at c1
    rw [show [ks.drop 2].flatten = ks.drop 2 from by simp] at c2
    rw [show [cs.take 1].flatten = cs.take 1 from by simp] at c3
    rw [show [cs.drop 2].flatten = cs.drop 2 from by simp] at c4
    have d1 := acall Tryz.func84 (c1) (by decide +kernel) (by decide +kernel)
    have d2 := acall Tryz.func84 (c2) (by decide +kernel) (by decide +kernel)
    have d3 := acall Tryz.func85 (c3) (by decide +kernel) (by decide +kernel)
    have d4 := acall Tryz.func85 (c4) (by decide +kernel) (by decide +kernel)
    refine wO ?_
    rw [show fanHal ks cs = (ks.take 2, cs.take 1, cs[1], ks.drop 2, cs.drop 2, true) from by unfold fanHal; rw [if_pos ⟨hk, hc⟩]; simp [List.getD, hc]]
    exact fin ⟨res_sl rfl, res_sl rfl, res_var rfl rfl rfl rfl, res_sl rfl, res_sl rfl, res_of rfl rfl rfl, trivial⟩
  · rw [show fanHal ks cs = ([], [], Key.zero, [], [], false) from if_neg h]
    by_cases hk : ks.length = 4
    · refine wO ?_
      exact fin ⟨res_nil rfl, res_nil rfl, res_var rfl rfl rfl rfl, res_nil rfl, res_nil rfl, res_of rfl rfl rfl, trivial⟩
    · refine wO ?_
      exact fin ⟨res_nil rfl, res_nil rfl, res_var rfl rfl rfl rfl, res_nil rfl, res_nil rfl, res_of rfl rfl rfl, trivial⟩
end Go.Proofs.YtonjbnoeoececaaGreat

namespace Go.Proofs.YtonjbnoeoececaaGreat
open Go Go.RowKit
set_option linter.unusedVariables false
set_option linter.unusedSimpArgs false
set_option maxRecDepth 100000

/-- the first j kids, with one more behind place i -/
def insK (ks : List Int) (i id : Int) (j : Nat) : List Int := if 0 ≤ i ∧ i < j then ks.take (i.toNat + 1) ++ ([id] ++ (ks.take j).drop (i.toNat + 1)) else ks.take j
theorem insK_hit (ks : List Int) (i id : Int) (j : Nat) (h : j < ks.length) (e : (j : Int) = i) : insK ks i id (j + 1) = insK ks i id j ++ [ks[j]] ++ [id] := by
  subst e
  unfold insK
  rw [if_pos (by omega), if_neg (by omega), Int.toNat_natCast, List.drop_eq_nil_of_le (by simp; omega), List.take_succ_eq_append_getElem h]
  simp
theorem insK_miss (ks : List Int) (i id : Int) (j : Nat) (h : j < ks.length) (e : ¬ (j : Int) = i) : insK ks i id (j + 1) = insK ks i id j ++ [ks[j]] := by
  unfold insK
  by_cases c : 0 ≤ i ∧ i < j
  · rw [if_pos (by omega), if_pos c, List.take_succ_eq_append_getElem h, List.drop_append_of_le_length (by simp; omega)]
    simp
  · rw [if_neg (by omega), if_neg c, List.take_succ_eq_append_getElem h]
theorem insK_zero (ks : List Int) (i id : Int) : insK ks i id 0 = [] := by
  unfold insK; rw [if_neg (by omega)]; rfl
theorem insK_end (ks : List Int) (cs : List Key) (i id : Int) (x : Key) : insK ks i id ks.length = (fanIns ks cs i x id).1 := by
  unfold insK fanIns
  by_cases c : 0 ≤ i ∧ i < ks.length
  · rw [if_pos c, if_pos c]; simp [insKids]
  · rw [if_neg c, if_neg c]; simp
theorem insK_le (ks : List Int) (i id : Int) (j : Nat) : (insK ks i id j).length ≤ ks.length + 1 + ks.length := by
  unfold insK; split <;> simp <;> omega
/-- the first j pivots, with one more ahead of place i -/
def insC (cs : List Key) (m : Nat) (i : Int) (x : Key) (j : Nat) : List Key := if 0 ≤ i ∧ i < m ∧ i < j then cs.take i.toNat ++ ([x] ++ (cs.take j).drop i.toNat) else cs.take j
theorem insC_hit (cs : List Key) (m : Nat) (i : Int) (x : Key) (j : Nat) (h : j < cs.length) (e : (j : Int) = i) (hm : i < m) : insC cs m i x (j + 1) = insC cs m i x j ++ [x] ++ [cs[j]] := by
  subst e
  unfold insC
  rw [if_pos (by omega), if_neg (by omega), Int.toNat_natCast, List.take_succ_eq_append_getElem h, List.drop_append_of_le_length (by simp; omega), List.drop_eq_nil_of_le (by simp; omega)]
  simp
theorem insC_miss (cs : List Key) (m : Nat) (i : Int) (x : Key) (j : Nat) (h : j < cs.length) (e : ¬ ((j : Int) = i ∧ i < m)) : insC cs m i x (j + 1) = insC cs m i x j ++ [cs[j]] := by
  unfold insC
  by_cases c : 0 ≤ i ∧ i < m ∧ i < j
  · rw [if_pos (by omega), if_pos c, List.take_succ_eq_append_getElem h, List.drop_append_of_le_length (by simp; omega)]
    simp
  · rw [if_neg (by omega), if_neg c, List.take_succ_eq_append_getElem h]
theorem insC_zero (cs : List Key) (m : Nat) (i : Int) (x : Key) : insC cs m i x 0 = [] := by
  unfold insC; rw [if_neg (by omega)]; rfl
theorem insC_last (ks : List Int) (cs : List Key) (i id : Int) (x : Key) (e : i = cs.length) (hm : i < ks.length) : insC cs ks.length i x cs.length ++ [x] = (fanIns ks cs i x id).2 := by
  subst e
  unfold insC fanIns
  rw [if_neg (by omega), if_pos (by omega)]
  simp [insCuts]
theorem insC_end (ks : List Int) (cs : List Key) (i id : Int) (x : Key) (hl : ks.length ≤ cs.length + 1) (e : ¬ (i = cs.length ∧ i < ks.length)) : insC cs ks.length i x cs.length = (fanIns ks cs i x id).2 := by
  unfold insC fanIns
  by_cases c : 0 ≤ i ∧ i < ks.length
  · rw [if_pos (by omega), if_pos c]
    have : min i.toNat cs.length = i.toNat := by omega
    simp [insCuts, this]
  · rw [if_neg (by omega), if_neg c]; simp
theorem insC_le (cs : List Key) (m : Nat) (i : Int) (x : Key) (j : Nat) : (insC cs m i x j).length ≤ cs.length + 1 + cs.length := by
  unfold insC; split <;> simp <;> omega
/-- the first places at which two rows are alike -/
theorem same_step {α : Type} [DecidableEq α] (a b : List α) (j : Nat) (h : j < a.length) (h' : j < b.length) (e : a[j] = b[j]) (k : a.take j = b.take j) : a.take (j + 1) = b.take (j + 1) := by
  rw [List.take_succ_eq_append_getElem h, List.take_succ_eq_append_getElem h', e, k]
theorem same_no {α : Type} [DecidableEq α] (a b : List α) (j : Nat) (h : j < a.length) (h' : j < b.length) (e : a[j] ≠ b[j]) : decide (a = b) = false := decide_eq_false fun k => e (by subst k; rfl)
attribute [local irreducible] OpOK AWops AW CondB Go2 AFn thenA inBlockA noGotoA orderOk wantedA
set_option maxRecDepth 100000 in
theorem a_sameInts (a b : List Int) (h1 : a.length ≤ 1000000000) : AFn Tryz.prog 69 [intsA a, intsA b] (boolA (decide (a = b))) := by
  refine AFn_intro Tryz.func69 rfl Tryz.ntmps69 rfl (by simp) [_] rfl fun E hE => ?_
  by_cases hl : a.length = b.length
  · refine wO ?_
    refine AW_loopI (fun j : Nat => ⟨[(0, intsA a), (1, intsA b), (5, intA j)], []⟩) (fun j => j ≤ a.length ∧ a.take j = b.take j) (fun j => a.length - j) 0 ⟨Nat.zero_le _, rfl⟩ (by (refine Go2.sub ⟨?_, ?_⟩ <;> repeat' (first | exact True.intro | rfl | apply And.intro))) (fun j hj => ?_)
    obtain ⟨hj, hJ⟩ := hj
    by_cases hlt : j < a.length
    · have hlt' : j < b.length := by omega
      by_cases h : a[j] = b[j]
      · have h' : ¬ a[j] ≠ b[j] := fun k => k h
        refine wO ?_
        refine ⟨j + 1, ⟨hlt, same_step a b j hlt hlt' h hJ⟩, by omega, ?_⟩
        (refine Go2.sub ⟨?_, ?_⟩ <;> repeat' (first | exact True.intro | rfl | apply And.intro))
      · have h' : a[j] ≠ b[j] := h
        rw [same_no a b j hlt hlt' h]
        refine wO ?_
        exact fin ⟨res_of rfl rfl rfl, trivial⟩
    · have : j = a.length := by omega
      subst this
      rw [List.take_length, hl, List.take_length] at hJ
      rw [decide_eq_true hJ]
      refine wO ?_
      exact fin ⟨res_of rfl rfl rfl, trivial⟩
  · rw [show decide (a = b) = false from decide_eq_false fun k => hl (by rw [k])]
    refine wO ?_
    exact fin ⟨res_of rfl rfl rfl, trivial⟩
set_option maxRecDepth 100000 in
theorem a_sameKeys (a b : List Key) (h1 : a.length ≤ 1000000000) : AFn Tryz.prog 70 [keysA a, keysA b] (boolA (decide (a = b))) := by
  refine AFn_intro Tryz.func70 rfl Tryz.ntmps70 rfl (by simp) [_] rfl fun E hE => ?_
  by_cases hl : a.length = b.length
  · refine wO ?_
    refine AW_loopI (fun j : Nat => ⟨[(0, keysA a), (1, keysA b), (5, intA j)], []⟩) (fun j => j ≤ a.length ∧ a.take j = b.take j) (fun j => a.length - j) 0 ⟨Nat.zero_le _, rfl⟩ (by (refine Go2.sub ⟨?_, ?_⟩ <;> repeat' (first | exact True.intro | rfl | apply And.intro))) (fun j hj => ?_)
    obtain ⟨hj, hJ⟩ := hj
    by_cases hlt : j < a.length
    · have hlt' : j < b.length := by omega
      by_cases h : a[j] = b[j]
      · have h' : ¬ a[j] ≠ b[j] := fun k => k h
        refine wO ?_
        refine ⟨j + 1, ⟨hlt, same_step a b j hlt hlt' h hJ⟩, by omega, ?_⟩
        (refine Go2.sub ⟨?_, ?_⟩ <;> repeat' (first | exact True.intro | rfl | apply And.intro))
      · have h' : a[j] ≠ b[j] := h
        rw [same_no a b j hlt hlt' h]
        refine wO ?_
        exact fin ⟨res_of rfl rfl rfl, trivial⟩
    · have : j = a.length := by omega
      subst this
      rw [List.take_length, hl, List.take_length] at hJ
      rw [decide_eq_true hJ]
      refine wO ?_
      exact fin ⟨res_of rfl rfl rfl, trivial⟩
  · rw [show decide (a = b) = false from decide_eq_false fun k => hl (by rw [k])]
    refine wO ?_
    exact fin ⟨res_of rfl rfl rfl, trivial⟩
set_option maxRecDepth 100000 in
theorem a_refhalves (ks : List Int) (cs : List Key) (h1 : ks.length ≤ 100000000) (h2 : cs.length ≤ 100000000) : AFn Tryz.prog 88 [intsA ks, keysA cs] (fanHalA (fanHal ks cs)) := by
  refine AFn_intro Tryz.func88 rfl Tryz.ntmps88 rfl (by simp) [_, _, _, _, _, _] rfl fun E hE => ?_
  by_cases h : ks.length = 4 ∧ cs.length = 3
  · obtain ⟨hk, hc⟩ := h
    refine wO ?_
    rw [show fanHal ks cs = (ks.take 2, cs.take 1, cs[1], ks.drop 2, cs.drop 2, true) from by unfold fanHal; rw [if_pos ⟨hk, hc⟩]; simp [List.getD, hc]]
    exact fin ⟨res_sl rfl, res_sl rfl, res_var rfl rfl rfl rfl, res_sl rfl, res_sl rfl, res_of rfl rfl rfl, trivial⟩
  · rw [show fanHal ks cs = ([], [], Key.zero, [], [], false) from if_neg h]
    by_cases hk : ks.length = 4
    · refine wO ?_
      exact fin ⟨res_nil rfl, res_nil rfl, res_var rfl rfl rfl rfl, res_nil rfl, res_nil rfl, res_of rfl rfl rfl, trivial⟩
    · refine wO ?_
      exact fin ⟨res_nil rfl, res_nil rfl, res_var rfl rfl rfl rfl, res_nil rfl, res_nil rfl, res_of rfl rfl rfl, trivial⟩
set_option maxRecDepth 100000 in
theorem a_refinsert (ks : List Int) (cs : List Key) (i : Int) (x : Key) (id : Int) (h1 : ks.length ≤ 100000000) (h2 : cs.length ≤ 100000000) (h3 : ks.length ≤ cs.length + 1) : AFn Tryz.prog 50 [intsA ks, keysA cs, intA i, x.av, intA id] (.tup [intsA (fanIns ks cs i x id).1, keysA (fanIns ks cs i x id).2]) := by
  refine AFn_intro Tryz.func50 rfl Tryz.ntmps50 rfl (by simp) [_, _] rfl fun E hE => ?_
  refine wO ?_
  refine AW_go (Go2.token 12 12 0 3 rfl rfl) ?_
  refine AW_go (Go2.token 13 13 8 26 rfl rfl) ?_
  refine AW_loopI (fun j : Nat => ⟨[(0, intsA ks), (1, keysA cs), (2, intA i), (4, intA id), (8, .ptr 8 0 []), (14, intA j), (12, .sl (some 12) 1 ((insK ks i id j).map intA)), (13, .sl (some 13) 9 [])], [(8, .var x.av), (12, .tail 3 1 (insK ks i id j).length), (13, .tail 26 9 0)]⟩) (fun j => j ≤ ks.length) (fun j => ks.length - j) 0 (Nat.zero_le _) (by (refine Go2.sub ⟨?_, ?_⟩ <;> repeat' (first | exact True.intro | rfl | apply And.intro)); all_goals (rw [insK_zero]; rfl)) (fun j hj => ?_)
  by_cases hlt : j < ks.length
  · have hle := insK_le ks i id j
    by_cases h : (j : Int) = i
    · have hs := insK_hit ks i id j hlt h
      refine wO ?_
      refine ⟨j + 1, hlt, by omega, ?_⟩
      (refine Go2.sub ⟨?_, ?_⟩ <;> repeat' (first | exact True.intro | rfl | apply And.intro))
      all_goals (rw [hs]; rfl)
    · have hs := insK_miss ks i id j hlt h
      refine wO ?_
      refine ⟨j + 1, hlt, by omega, ?_⟩
      (refine Go2.sub ⟨?_, ?_⟩ <;> repeat' (first | exact True.intro | rfl | apply And.intro))
      all_goals (rw [hs]; rfl)
  · have : j = ks.length := by omega
    subst this
    refine wO ?_
    refine AW_loopI (fun j : Nat => ⟨[(0, intsA ks), (1, keysA cs), (2, intA i), (8, .ptr 8 0 []), (15, intA j), (12, .sl (some 12) 1 ((insK ks i id ks.length).map intA)), (13, .sl (some 13) 9 ((insC cs ks.length i x j).map Key.av))], [(8, .var x.av), (12, .tail 3 1 (insK ks i id ks.length).length), (13, .tail 26 9 (insC cs ks.length i x j).length)]⟩) (fun j => j ≤ cs.length) (fun j => cs.length - j) 0 (Nat.zero_le _) (by (refine Go2.sub ⟨?_, ?_⟩ <;> repeat' (first | exact True.intro | rfl | apply And.intro)); all_goals (rw [insC_zero]; rfl)) (fun j hj => ?_)
    have hle := insC_le cs ks.length i x j
    by_cases hlt : j < cs.length
    · by_cases he : (j : Int) = i ∧ i < ks.length
      · obtain ⟨he, hm⟩ := he
        have hs := insC_hit cs ks.length i x j hlt he hm
        refine wO ?_
        refine ⟨j + 1, hlt, by omega, ?_⟩
        (refine Go2.sub ⟨?_, ?_⟩ <;> repeat' (first | exact True.intro | rfl | apply And.intro))
        all_goals (rw [hs]; rfl)
      · have hs := insC_miss cs ks.length i x j hlt he
        by_cases he' : (j : Int) = i
        · refine wO ?_
          refine ⟨j + 1, hlt, by omega, ?_⟩
          (refine Go2.sub ⟨?_, ?_⟩ <;> repeat' (first | exact True.intro | rfl | apply And.intro))
          all_goals (rw [hs]; rfl)
        · refine wO ?_
          refine ⟨j + 1, hlt, by omega, ?_⟩
          (refine Go2.sub ⟨?_, ?_⟩ <;> repeat' (first | exact True.intro | rfl | apply And.intro))
          all_goals (rw [hs]; rfl)
    · have : j = cs.length := by omega
      subst this
      by_cases he : i = (cs.length : Int) ∧ i < ks.length
      · obtain ⟨he, hm⟩ := he
        rw [← insK_end ks cs i id x, ← insC_last ks cs i id x he hm]
        refine wO ?_
        exact fin ⟨res_sl rfl, res_sl rfl, trivial⟩
      · rw [← insK_end ks cs i id x, ← insC_end ks cs i id x h3 he]
        by_cases he' : i = (cs.length : Int)
        · refine wO ?_
          exact fin ⟨res_sl rfl, res_sl rfl, trivial⟩
        · refine wO ?_
          exact fin ⟨res_sl rfl, res_sl rfl, trivial⟩
end Go.Proofs.YtonjbnoeoececaaGreat

namespace Go.Proofs.YtonjbnoeoececaaGreat
open Go Go.RowKit
set_option linter.unusedVariables false
set_option linter.unusedSimpArgs false
set_option maxRecDepth 100000

theorem a_lplace (v n : Int) (h0 : 0 < n) (h1 : n ≤ 9223372036854775807) (hv : -9223372036854775808 ≤ v ∧ v ≤ 9223372036854775807) : AFn Tryz.prog 25 [intA v, intA n] (intA (v % n)) := fun U w vs h => by
  obtain ⟨v1, us, rfl, k1, h⟩ := rdp_one h
  obtain ⟨v2, us, rfl, k2, h⟩ := rdp_one h
  obtain rfl := rdp_nil h
  rw [int_arg k1, int_arg k2]
  exact (lplace_any v n w h0 h1 hv).mono fun e w' ⟨q1, q2⟩ => ⟨_, q1, is_v (w := w) rfl, by rw [q2]; exact Ext.refl w⟩
end Go.Proofs.YtonjbnoeoececaaGreat

namespace Go.Proofs.YtonjbnoeoececaaGreat
open Go Go.RowKit
set_option linter.unusedVariables false
set_option linter.unusedSimpArgs false
set_option maxRecDepth 100000

/-- where a key stands, or would -/
def atOf (cmp : Key → Key → Int) (x : Key) : List Key → Nat
  | [] => 0
  | y :: l => if cmp y x < 0 then atOf cmp x l + 1 else 0
theorem atOf_le (cmp : Key → Key → Int) (x : Key) : ∀ l, atOf cmp x l ≤ l.length
  | [] => Nat.le_refl _
  | y :: l => by
    unfold atOf
    split
    · have := atOf_le cmp x l; simp; omega
    · simp
theorem atOf_lt (cmp : Key → Key → Int) (x : Key) : ∀ (l : List Key) (i : Nat) (h : i < l.length), i < atOf cmp x l → cmp l[i] x < 0
  | y :: l, i, h, hi => by
    unfold atOf at hi
    split at hi
    · rename_i c
      cases i with
      | zero => exact c
      | succ i => exact atOf_lt cmp x l i (by simpa using h) (by omega)
    · omega
theorem atOf_not (cmp : Key → Key → Int) (x : Key) : ∀ (l : List Key) (h : atOf cmp x l < l.length), ¬ cmp l[atOf cmp x l] x < 0
  | y :: l, h => by
    by_cases c : cmp y x < 0
    · have e : atOf cmp x (y :: l) = atOf cmp x l + 1 := by rw [atOf, if_pos c]
      simp only [e, List.getElem_cons_succ]
      exact atOf_not cmp x l (by rw [e] at h; simpa using h)
    · have e : atOf cmp x (y :: l) = 0 := by rw [atOf, if_neg c]
      simp only [e, List.getElem_cons_zero]
      exact c
def putKey (cmp : Key → Key → Int) (out : List Key) (x : Key) : List Key :=
  if x.ok = true then (if (atOf cmp x out < out.length ∧ out[atOf cmp x out]? = some x) then out else out.take (atOf cmp x out) ++ [x] ++ out.drop (atOf cmp x out)) else out
def orderK (l : List Key) : List Key := l.foldl (putKey refCmp) []
theorem putKey_le (cmp : Key → Key → Int) (out : List Key) (x : Key) : (putKey cmp out x).length ≤ out.length + 1 := by
  unfold putKey
  split
  · split
    · omega
    · simp; omega
  · omega
theorem orderK_step (l : List Key) (i : Nat) (h : i < l.length) : orderK (l.take (i + 1)) = putKey refCmp (orderK (l.take i)) l[i] := by
  unfold orderK
  rw [List.take_succ_eq_append_getElem h, List.foldl_append]
  rfl
theorem orderK_le (l : List Key) : ∀ i, (orderK (l.take i)).length ≤ i
  | 0 => by simp [orderK]
  | i + 1 => by
    by_cases h : i < l.length
    · rw [orderK_step l i h]
      have := putKey_le refCmp (orderK (l.take i)) l[i]
      have := orderK_le l i
      omega
    · rw [List.take_of_length_le (by omega), ← List.take_of_length_le (show l.length ≤ i by omega)]
      have := orderK_le l i
      omega
attribute [local irreducible] OpOK AWops AW CondB Go2 AFn thenA inBlockA noGotoA orderOk wantedA
set_option maxRecDepth 100000 in
set_option maxHeartbeats 4000000 in
theorem a_order (l : List Key) (hl : l.length ≤ 1000000) : AFn Tryz.prog 66 [keysA l] (keysA (orderK l)) := by
  refine AFn_intro Tryz.func66 rfl Tryz.ntmps66 rfl (by simp) [_] rfl fun E hE => ?_
  refine wO ?_
  refine AW_go (Go2.nil 3 9 rfl) ?_
  refine AW_loopI (fun i : Nat => ⟨[(0, keysA l), (4, intA i), (3, keysA (orderK (l.take i)))], []⟩) (fun i => i ≤ l.length) (fun i => l.length - i) 0 (Nat.zero_le _) (by (refine Go2.sub ⟨?_, ?_⟩ <;> repeat' (first | exact True.intro | rfl | apply And.intro))) (fun i hi => ?_)
  by_cases hlt : i < l.length
  · have hs := orderK_step l i hlt
    have hle := orderK_le l i
    generalize ho : orderK (l.take i) = out at hs hle ⊢
    have ck := acall Tryz.func93 (a_refkeycheck l[i]) (by decide +kernel) (by decide +kernel)
    cases hk : l[i].ok with
    | false =>
      have hk' : (!l[i].ok) = true := by rw [hk]; rfl
      refine wO ?_
      rw [hk']
      refine wO ?_
      have e : orderK (l.take (i + 1)) = out := by rw [hs]; unfold putKey; rw [if_neg (by rw [hk]; simp)]
      refine ⟨i + 1, hlt, by omega, ?_⟩
      (refine Go2.sub ⟨?_, ?_⟩ <;> repeat' (first | exact True.intro | rfl | apply And.intro))
      all_goals (rw [e]; rfl)
    | true =>
      have hk' : (!l[i].ok) = false := by rw [hk]; rfl
      refine wO ?_
      rw [hk']
      refine wO ?_
      refine AW_loopI (fun j : Nat => ⟨[(0, keysA l), (4, intA i), (3, keysA out), (5, intA j)], []⟩) (fun j => j ≤ atOf refCmp l[i] out) (fun j => atOf refCmp l[i] out - j) 0 (Nat.zero_le _) (by (refine Go2.sub ⟨?_, ?_⟩ <;> repeat' (first | exact True.intro | rfl | apply And.intro))) (fun j hj => ?_)
      have hat := atOf_le refCmp l[i] out
      by_cases hj2 : j < out.length
      · have cc := acall Tryz.func31 (a_refcmp out[j] l[i]) (by decide +kernel) (by decide +kernel)
        by_cases hc : refCmp out[j] l[i] < 0
        · have hj4 : j + 1 ≤ atOf refCmp l[i] out := by
            have : j ≠ atOf refCmp l[i] out := fun e => by subst e; exact atOf_not refCmp l[i] out hj2 hc
            omega
          refine wO ?_
          refine ⟨j + 1, hj4, by omega, ?_⟩
          (refine Go2.sub ⟨?_, ?_⟩ <;> repeat' (first | exact True.intro | rfl | apply And.intro))
        · have hj5 : j = atOf refCmp l[i] out := by
            have : ¬ j < atOf refCmp l[i] out := fun h => hc (atOf_lt refCmp l[i] out j hj2 h)
            omega
          by_cases he : out[j] = l[i]
          · refine wO ?_
            have e : orderK (l.take (i + 1)) = out := by
              rw [hs]; unfold putKey
              rw [if_pos hk, ← hj5, if_pos ⟨hj2, by rw [List.getElem?_eq_getElem hj2, he]⟩]
            refine ⟨i + 1, hlt, by omega, ?_⟩
            (refine Go2.sub ⟨?_, ?_⟩ <;> repeat' (first | exact True.intro | rfl | apply And.intro))
            all_goals (rw [e]; rfl)
          · refine wO ?_
            have e : orderK (l.take (i + 1)) = out.take j ++ [l[i]] ++ out.drop j := by
              rw [hs]; unfold putKey
              rw [if_pos hk, ← hj5, if_neg (fun h => he (by have := h.2; rw [List.getElem?_eq_getElem hj2] at this; injection this))]
            refine ⟨i + 1, hlt, by omega, Go2.trans (Go2.weak 3 rfl) ?_⟩
            (refine Go2.sub ⟨?_, ?_⟩ <;> repeat' (first | exact True.intro | rfl | apply And.intro))
            all_goals (rw [e]; rfl)
      · have hj5 : j = atOf refCmp l[i] out := by omega
        refine wO ?_
        have e : orderK (l.take (i + 1)) = out.take j ++ [l[i]] ++ out.drop j := by
          rw [hs]; unfold putKey
          rw [if_pos hk, ← hj5, if_neg (fun h => hj2 h.1)]
        refine ⟨i + 1, hlt, by omega, Go2.trans (Go2.weak 3 rfl) ?_⟩
        (refine Go2.sub ⟨?_, ?_⟩ <;> repeat' (first | exact True.intro | rfl | apply And.intro))
        all_goals (rw [e]; rfl)
  · refine wO ?_
    have : i = l.length := by omega
    subst this
    exact fin ⟨res_sl (by rw [List.take_length]; rfl), trivial⟩
/-- pivots by numbers -/
def pivStep (most : Int) (out : List Key) (v : Int) : List Key := if ((orderK (out ++ [lawKey v])).length : Int) ≤ most then orderK (out ++ [lawKey v]) else out
def pivK (l : List Int) (most : Int) : List Key := (l.take 20).foldl (pivStep most) []
theorem orderK_len (l : List Key) : (orderK l).length ≤ l.length := by
  have := orderK_le l l.length
  rwa [List.take_length] at this
theorem pivStep_le (most : Int) (out : List Key) (v : Int) : (pivStep most out v).length ≤ out.length + 1 := by
  unfold pivStep
  split
  · have := orderK_len (out ++ [lawKey v])
    simpa using this
  · omega
def pivAt (l : List Int) (most : Int) (i : Nat) : List Key := (l.take i).foldl (pivStep most) []
theorem pivAt_step (l : List Int) (most : Int) (i : Nat) (h : i < l.length) : pivAt l most (i + 1) = pivStep most (pivAt l most i) l[i] := by
  unfold pivAt
  rw [List.take_succ_eq_append_getElem h, List.foldl_append]
  rfl
theorem pivAt_le (l : List Int) (most : Int) : ∀ i, (pivAt l most i).length ≤ i
  | 0 => by simp [pivAt]
  | i + 1 => by
    by_cases h : i < l.length
    · rw [pivAt_step l most i h]
      have := pivStep_le most (pivAt l most i) l[i]
      have := pivAt_le l most i
      omega
    · have e : pivAt l most (i + 1) = pivAt l most i := by unfold pivAt; rw [List.take_of_length_le (by omega), List.take_of_length_le (by omega)]
      rw [e]
      have := pivAt_le l most i
      omega
theorem pivAt_end (l : List Int) (most : Int) (i : Nat) (h : i ≤ l.length) (h20 : i ≤ 20) (hn : ¬ (i < l.length ∧ i < 20)) : pivAt l most i = pivK l most := by
  unfold pivAt pivK
  congr 1
  by_cases c : i < l.length
  · rw [show i = 20 from by omega]
  · rw [List.take_of_length_le (by omega), List.take_of_length_le (by omega)]
set_option maxRecDepth 100000 in
set_option maxHeartbeats 4000000 in
theorem a_pivots (l : List Int) (most : Int) (hl : l.length ≤ 1000000000000000000) (hb : ∀ n ∈ l, -9223372036854775808 ≤ n ∧ n ≤ 9223372036854775807) : AFn Tryz.prog 38 [intsA l, intA most] (keysA (pivK l most)) := by
  refine AFn_intro Tryz.func38 rfl Tryz.ntmps38 rfl (by simp) [_] rfl fun E hE => ?_
  refine wO ?_
  refine AW_go (Go2.nil 5 9 rfl) ?_
  refine AW_loopI (fun i : Nat => ⟨[(0, intsA l), (1, intA most), (6, intA i), (5, keysA (pivAt l most i))], []⟩) (fun i => i ≤ l.length ∧ i ≤ 20) (fun i => l.length - i) 0 ⟨Nat.zero_le _, Nat.zero_le _⟩ (by (refine Go2.sub ⟨?_, ?_⟩ <;> repeat' (first | exact True.intro | rfl | apply And.intro))) (fun i hi => ?_)
  obtain ⟨hi, hi20⟩ := hi
  by_cases hlt : i < l.length ∧ i < 20
  · obtain ⟨hlt, hlt20⟩ := hlt
    have hs := pivAt_step l most i hlt
    have hle := pivAt_le l most i
    generalize ho : pivAt l most i = out at hs hle ⊢
    have hc := a_lkey l[i] (hb _ (List.getElem_mem hlt))
    have hord := a_order (out ++ [lawKey l[i]]) (by simp; omega)
    have c1 := acall Tryz.func27 (hc) (by decide +kernel) (by decide +kernel)
    have c2 := acall Tryz.func66 (hord) (by decide +kernel) (by decide +kernel)
    by_cases hm : ((orderK (out ++ [lawKey l[i]])).length : Int) ≤ most
    · refine wO ?_
      have e : pivAt l most (i + 1) = orderK (out ++ [lawKey l[i]]) := by rw [hs]; unfold pivStep; rw [if_pos hm]
      refine ⟨i + 1, ⟨hlt, hlt20⟩, by omega, ?_⟩
      (refine Go2.sub ⟨?_, ?_⟩ <;> repeat' (first | exact True.intro | rfl | apply And.intro))
      all_goals (rw [e]; rfl)
    · refine wO ?_
      have e : pivAt l most (i + 1) = out := by rw [hs]; unfold pivStep; rw [if_neg hm]
      refine ⟨i + 1, ⟨hlt, hlt20⟩, by omega, ?_⟩
      (refine Go2.sub ⟨?_, ?_⟩ <;> repeat' (first | exact True.intro | rfl | apply And.intro))
      all_goals (rw [e]; rfl)
  · have he := pivAt_end l most i hi hi20 hlt
    rw [← he]
    by_cases hj : i < l.length
    · refine wO ?_
      exact fin ⟨res_sl rfl, trivial⟩
    · refine wO ?_
      exact fin ⟨res_sl rfl, trivial⟩
end Go.Proofs.YtonjbnoeoececaaGreat

namespace Go.Proofs.YtonjbnoeoececaaGreat
open Go Go.RowKit
set_option linter.unusedVariables false
set_option linter.unusedSimpArgs false
set_option maxRecDepth 100000

def Rise (l : List Key) : Prop := (∀ k ∈ l, k.ok = true) ∧ l.Pairwise fun a b => a.rank < b.rank
theorem Rise.nil : Rise [] := ⟨(fun k h => by cases h), List.Pairwise.nil⟩
theorem Rise.tail {x : Key} {l : List Key} (h : Rise (x :: l)) : Rise l := ⟨fun k hk => h.1 k (List.mem_cons_of_mem _ hk), (List.pairwise_cons.1 h.2).2⟩
theorem Rise.at {l : List Key} (h : Rise l) {i j : Nat} (hi : i < l.length) (hj : j < l.length) (hij : i < j) : l[i].rank < l[j].rank := List.pairwise_iff_getElem.1 h.2 i j hi hj hij
theorem Rise.ok {l : List Key} (h : Rise l) {i : Nat} (hi : i < l.length) : l[i].ok = true := h.1 _ (List.getElem_mem hi)
theorem kidBy_lt {l : List Key} (h : Rise l) {x : Key} : ∀ {i : Nat} (hi : i < l.length), i < kidBy keyCmp x l → l[i].rank ≤ x.rank := by
  induction l with
  | nil => intro i hi; cases hi
  | cons y l ih =>
    intro i hi hk
    by_cases c : keyCmp y x ≤ 0
    · cases i with
      | zero => rw [keyCmp_rank, sgn_le] at c; exact c
      | succ i =>
        have e : kidBy keyCmp x (y :: l) = kidBy keyCmp x l + 1 := by unfold kidBy; rw [List.countP_cons]; simp [c]
        exact ih h.tail (by simpa using hi) (by omega)
    · exfalso
      have e : kidBy keyCmp x (y :: l) = 0 := by
        unfold kidBy
        rw [List.countP_eq_zero]
        intro z hz
        rw [keyCmp_rank, sgn_le] at c
        rcases List.mem_cons.1 hz with rfl | hz
        · simp only [keyCmp_rank, sgn_le, decide_eq_true_eq]; omega
        · have := (List.pairwise_cons.1 h.2).1 z hz
          simp only [keyCmp_rank, sgn_le, decide_eq_true_eq]; omega
      omega
theorem kidBy_ge {l : List Key} (h : Rise l) {x : Key} : ∀ {i : Nat} (hi : i < l.length), kidBy keyCmp x l ≤ i → x.rank < l[i].rank := by
  induction l with
  | nil => intro i hi; cases hi
  | cons y l ih =>
    intro i hi hk
    by_cases c : keyCmp y x ≤ 0
    · have e : kidBy keyCmp x (y :: l) = kidBy keyCmp x l + 1 := by unfold kidBy; rw [List.countP_cons]; simp [c]
      cases i with
      | zero => omega
      | succ i => exact ih h.tail (by simpa using hi) (by omega)
    · rw [keyCmp_rank, sgn_le] at c
      cases i with
      | zero => simp; omega
      | succ i =>
        have hi' : i < l.length := by simpa using hi
        have := (List.pairwise_cons.1 h.2).1 _ (List.getElem_mem hi')
        simp only [List.getElem_cons_succ]
        omega
theorem kidBy_ref {l : List Key} (h : Rise l) {x : Key} (hx : x.ok = true) : kidBy refCmp x l = kidBy keyCmp x l := by
  unfold kidBy
  apply List.countP_congr
  intro z hz
  rw [refCmp_key (h.1 z hz) hx]
theorem atOf_ge {l : List Key} (h : Rise l) {x : Key} (hx : x.ok = true) {i : Nat} (hi : i < l.length) (hk : atOf refCmp x l ≤ i) : x.rank ≤ l[i].rank := by
  have h0 : atOf refCmp x l < l.length := by omega
  have hn := atOf_not refCmp x l h0
  rw [refCmp_rank (h.ok h0) hx, sgn_neg] at hn
  by_cases e : atOf refCmp x l = i
  · subst e; omega
  · have := h.at h0 hi (by omega)
    omega
theorem putKey_rise {l : List Key} (h : Rise l) (x : Key) : Rise (putKey refCmp l x) := by
  unfold putKey
  split
  · rename_i hx
    split
    · exact h
    · rename_i hn
      have hlt : ∀ i (hi : i < l.length), i < atOf refCmp x l → l[i].rank < x.rank := fun i hi c => by
        have := atOf_lt refCmp x l i hi c
        rwa [refCmp_rank (h.ok hi) hx, sgn_neg] at this
      have hge : ∀ i (hi : i < l.length), atOf refCmp x l ≤ i → x.rank < l[i].rank := fun i hi c => by
        have h1 := atOf_ge h hx hi c
        have h0 : atOf refCmp x l < l.length := by omega
        have h2 := atOf_ge h hx h0 (Nat.le_refl _)
        have h3 : l[atOf refCmp x l].rank ≠ x.rank := fun e => hn ⟨h0, by rw [List.getElem?_eq_getElem h0, (rank_inj (h.ok h0) hx).1 e]⟩
        by_cases e : atOf refCmp x l = i
        · subst e; omega
        · have := h.at h0 hi (by omega)
          omega
      refine ⟨fun k hk => ?_, ?_⟩
      · simp only [List.append_assoc, List.mem_append, List.mem_cons, List.not_mem_nil, or_false] at hk
        rcases hk with hk | rfl | hk
        · exact h.1 k (List.mem_of_mem_take hk)
        · exact hx
        · exact h.1 k (List.mem_of_mem_drop hk)
      · rw [List.append_assoc, List.pairwise_append]
        refine ⟨h.2.sublist (List.take_sublist _ _), ?_, ?_⟩
        · rw [List.singleton_append, List.pairwise_cons]
          refine ⟨fun z hz => ?_, h.2.sublist (List.drop_sublist _ _)⟩
          obtain ⟨i, hi, rfl⟩ := List.mem_iff_getElem.1 hz
          rw [List.getElem_drop]
          exact hge _ (by simp at hi; omega) (by omega)
        · intro a ha b hb
          obtain ⟨i, hi, rfl⟩ := List.mem_iff_getElem.1 ha
          rw [List.length_take] at hi
          rw [List.getElem_take]
          have h1 := hlt i (by omega) (by omega)
          rcases List.mem_append.1 hb with hb | hb
          · rw [List.mem_singleton] at hb; subst hb; exact h1
          · obtain ⟨j, hj, rfl⟩ := List.mem_iff_getElem.1 hb
            rw [List.getElem_drop]
            have := hge (atOf refCmp x l + j) (by simp at hj; omega) (by omega)
            omega
  · exact h
theorem orderK_rise (l : List Key) : Rise (orderK l) := by
  unfold orderK
  have : ∀ (l out : List Key), Rise out → Rise (l.foldl (putKey refCmp) out) := by
    intro l
    induction l with
    | nil => intro out h; exact h
    | cons x l ih => intro out h; exact ih _ (putKey_rise h x)
  exact this l [] Rise.nil
theorem pivK_rise (l : List Int) (most : Int) : Rise (pivK l most) := by
  unfold pivK
  have : ∀ (l : List Int) (out : List Key), Rise out → Rise (l.foldl (pivStep most) out) := by
    intro l
    induction l with
    | nil => intro out h; exact h
    | cons x l ih =>
      intro out h
      refine ih _ ?_
      unfold pivStep
      split
      · exact orderK_rise _
      · exact h
  exact this _ [] Rise.nil
theorem pivK_le (l : List Int) (most : Int) (h : 0 ≤ most) : ((pivK l most).length : Int) ≤ most := by
  unfold pivK
  have : ∀ (l : List Int) (out : List Key), (out.length : Int) ≤ most → ((l.foldl (pivStep most) out).length : Int) ≤ most := by
    intro l
    induction l with
    | nil => intro out h; exact h
    | cons x l ih =>
      intro out h
      refine ih _ ?_
      unfold pivStep
      split
      · assumption
      · exact h
  exact this _ [] (by simpa using h)
end Go.Proofs.YtonjbnoeoececaaGreat

namespace Go.Proofs.YtonjbnoeoececaaGreat
open Go Go.RowKit
set_option linter.unusedVariables false
set_option linter.unusedSimpArgs false
set_option maxRecDepth 100000

def keepP (cuts : List Key) (n : Nat) (m : Msg) : Bool := keepLo cuts m n && keepHi cuts m n
theorem part_keep {l : List Msg} (h : BSrt l) (cuts : List Key) (n : Nat) : l.filter (keepP cuts n) = bfPart l cuts n := part_filter h cuts n
theorem keepLo_zero (cuts : List Key) (m : Msg) : keepLo cuts m 0 = true := rfl
theorem keepLo_succ {cuts : List Key} (m : Msg) {i : Nat} (h : i < cuts.length) : keepLo cuts m (i + 1) = decide (cuts[i].rank ≤ m.key.rank) := by
  simp only [keepLo, List.getElem?_eq_getElem h]
theorem keepHi_in {cuts : List Key} (m : Msg) {n : Nat} (h : n < cuts.length) : keepHi cuts m n = decide (m.key.rank < cuts[n].rank) := by
  simp only [keepHi, List.getElem?_eq_getElem h]
theorem keepHi_out {cuts : List Key} (m : Msg) {n : Nat} (h : ¬ n < cuts.length) : keepHi cuts m n = true := by
  simp only [keepHi, List.getElem?_eq_none (by omega : cuts.length ≤ n)]
theorem pFrom_succ {cuts : List Key} (l : List Msg) {i : Nat} (h : i < cuts.length) : pFrom cuts l (i + 1) = bfAt cuts[i] l := by
  simp only [pFrom, List.getElem?_eq_getElem h]
theorem pTo_in {cuts : List Key} (l : List Msg) {n : Nat} (h : n < cuts.length) : pTo cuts l n = bfAt cuts[n] l := by
  simp only [pTo, List.getElem?_eq_getElem h]
theorem pTo_out {cuts : List Key} (l : List Msg) {n : Nat} (h : ¬ n < cuts.length) : pTo cuts l n = l.length := by
  simp only [pTo, List.getElem?_eq_none (by omega : cuts.length ≤ n)]
theorem pTo_le (cuts : List Key) (l : List Msg) (n : Nat) : pTo cuts l n ≤ l.length := by
  unfold pTo
  split
  · exact bfAt_le _ _
  · exact Nat.le_refl _
theorem part_nil {l : List Msg} {a b : Nat} (h : b ≤ a) : (l.take b).drop a = [] := List.drop_eq_nil_of_le (by rw [List.length_take]; omega)
attribute [local irreducible] OpOK AWops AW CondB Go2 AFn thenA inBlockA noGotoA orderOk wantedA
set_option maxRecDepth 100000 in
set_option maxHeartbeats 8000000 in
theorem a_bufpart_no (l : List Msg) (cuts : List Key) (i : Int) (h : i < 0 ∨ (cuts.length : Int) < i) : AFn Tryz.prog 76 [msgsA l, keysA cuts, intA i] (msgsA []) := by
  refine AFn_intro Tryz.func76 rfl Tryz.ntmps76 rfl (by simp) [_] rfl fun E hE => ?_
  by_cases c : i < 0
  · refine wB ?_
    exact fin ⟨res_nil rfl, trivial⟩
  · have c2 : (cuts.length : Int) < i := h.resolve_left c
    refine wB ?_
    exact fin ⟨res_nil rfl, trivial⟩
set_option maxRecDepth 100000 in
set_option maxHeartbeats 8000000 in
theorem a_ref06part_no (l : List Msg) (cuts : List Key) (i : Int) (h : i < 0 ∨ (cuts.length : Int) < i) : AFn Tryz.prog 54 [msgsA l, keysA cuts, intA i] (msgsA []) := by
  refine AFn_intro Tryz.func54 rfl Tryz.ntmps54 rfl (by simp) [_] rfl fun E hE => ?_
  by_cases c : i < 0
  · refine wB ?_
    exact fin ⟨res_nil rfl, trivial⟩
  · have c2 : (cuts.length : Int) < i := h.resolve_left c
    refine wB ?_
    exact fin ⟨res_nil rfl, trivial⟩
set_option maxRecDepth 100000 in
set_option maxHeartbeats 8000000 in
theorem a_bufpart (l : List Msg) (cuts : List Key) (n : Nat) (h : BSrt l) (hn : n ≤ cuts.length) (hl : l.length ≤ 100000000) (hl2 : cuts.length ≤ 100000000) : AFn Tryz.prog 76 [msgsA l, keysA cuts, intA n] (msgsA (bfPart l cuts n)) := by
  refine AFn_intro Tryz.func76 rfl Tryz.ntmps76 rfl (by simp) [_] rfl fun E hE => ?_
  unfold bfPart
  cases n with
  | zero =>
    rw [show pFrom cuts l 0 = 0 from rfl]
    by_cases c : 0 < cuts.length
    · rw [pTo_in l c]
      have d1 := acall Tryz.func98 (a_bufplace l cuts[0] h (by omega)) (by decide +kernel) (by decide +kernel)
      have q1 := bfAt_le cuts[0] l
      by_cases z : bfAt cuts[0] l ≤ 0
      · rw [part_nil z]
        refine wB ?_
        exact fin ⟨res_nil rfl, trivial⟩
      · refine wB ?_
        (apply Wv; (focus (exact o_cut3 rfl rfl rfl rfl rfl rfl (by first | exact Nat.zero_le _ | omega) (by omega))); (focus (first | exact want_n | exact want_g rfl (by with_reducible rfl))))
        refine wB ?_
        exact fin ⟨res_sl rfl, trivial⟩
    · rw [pTo_out l c]
      by_cases z : l.length ≤ 0
      · rw [part_nil z]
        refine wB ?_
        exact fin ⟨res_nil rfl, trivial⟩
      · refine wB ?_
        (apply Wv; (focus (exact o_cut3 rfl rfl rfl rfl rfl rfl (by first | exact Nat.zero_le _ | omega) (by omega))); (focus (first | exact want_n | exact want_g rfl (by with_reducible rfl))))
        refine wB ?_
        exact fin ⟨res_sl rfl, trivial⟩
  | succ m =>
    have hm : m < cuts.length := hn
    rw [pFrom_succ l hm]
    have q0 := bfAt_le cuts[m] l
    have d0 := acall Tryz.func98 (a_bufplace l cuts[m] h (by omega)) (by decide +kernel) (by decide +kernel)
    by_cases c : m + 1 < cuts.length
    · rw [pTo_in l c]
      have d1 := acall Tryz.func98 (a_bufplace l cuts[m + 1] h (by omega)) (by decide +kernel) (by decide +kernel)
      have q1 := bfAt_le cuts[m + 1] l
      by_cases z : bfAt cuts[m + 1] l ≤ bfAt cuts[m] l
      · rw [part_nil z]
        refine wB ?_
        exact fin ⟨res_nil rfl, trivial⟩
      · refine wB ?_
        (apply Wv; (focus (exact o_cut3 rfl rfl rfl rfl rfl rfl (by first | exact Nat.zero_le _ | omega) (by omega))); (focus (first | exact want_n | exact want_g rfl (by with_reducible rfl))))
        refine wB ?_
        exact fin ⟨res_sl rfl, trivial⟩
    · rw [pTo_out l c]
      by_cases z : l.length ≤ bfAt cuts[m] l
      · rw [part_nil z]
        refine wB ?_
        exact fin ⟨res_nil rfl, trivial⟩
      · refine wB ?_
        (apply Wv; (focus (exact o_cut3 rfl rfl rfl rfl rfl rfl (by first | exact Nat.zero_le _ | omega) (by omega))); (focus (first | exact want_n | exact want_g rfl (by with_reducible rfl))))
        refine wB ?_
        exact fin ⟨res_sl rfl, trivial⟩
set_option maxRecDepth 100000 in
set_option maxHeartbeats 8000000 in
theorem a_part00 (l : List Msg) (cuts : List Key) (h : Bf l) (hr : Rise cuts) (k0 : 0 < cuts.length) (hl : l.length ≤ 100000000) (hl2 : cuts.length ≤ 100000000) : AFn Tryz.prog 54 [msgsA l, keysA cuts, intA ((0 : Nat) : Nat)] (msgsA (bfPart l cuts (0))) := by
    rw [← part_keep h.srt]
    refine AFn_intro Tryz.func54 rfl Tryz.ntmps54 rfl (by simp) [_] rfl fun E hE => ?_
    refine wB ?_
    refine AW_go (Go2.token 7 7 28 31 rfl rfl) ?_
    refine AW_loopI (fun j : Nat => ⟨[(0, msgsA l), (1, keysA cuts), (2, intA ((0 : Nat) : Nat)), (8, intA j), (7, .sl (some 7) 29 (((l.take j).filter (keepP cuts (0))).map Msg.av))], [(7, .tail 31 29 ((l.take j).filter (keepP cuts (0))).length)]⟩) (fun j => j ≤ l.length) (fun j => l.length - j) 0 (Nat.zero_le _) (by (refine Go2.sub ⟨?_, ?_⟩ <;> repeat' (first | exact True.intro | rfl | apply And.intro))) (fun j hj => ?_)
    have hfl := List.length_filter_le (keepP cuts (0)) (l.take j)
    rw [List.length_take] at hfl
    by_cases c : j < l.length
    · have hs := filter_snoc (keepP cuts (0)) j c
      have hjk := (Msg.spec (h.ok _ (List.getElem_mem c))).2.2.1
      have hc := refCmp_rank hjk (hr.ok k0)
      have d1 := acall Tryz.func31 (a_refcmp l[j].key cuts[0]) (by decide +kernel) (by decide +kernel)
      by_cases y : l[j].key.rank < cuts[0].rank
      · have hq : ¬ (0 : Int) ≤ refCmp l[j].key cuts[0] := fun e => by rw [hc] at e; have := (sgn_ge _ _).1 e; omega
        have hg : keepP cuts (0) l[j] = true := by unfold keepP; rw [keepLo_zero, keepHi_in _ k0, decide_eq_true y]; rfl
        rw [hg] at hs
        simp only [if_true] at hs
        refine wB ?_
        refine ⟨j + 1, c, by omega, ?_⟩
        rw [hs]
        (refine Go2.sub ⟨?_, ?_⟩ <;> repeat' (first | exact True.intro | rfl | apply And.intro))
      · have hq : (0 : Int) ≤ refCmp l[j].key cuts[0] := by rw [hc]; exact (sgn_ge _ _).2 (by omega)
        have hg : keepP cuts (0) l[j] = false := by unfold keepP; rw [keepLo_zero, keepHi_in _ k0, decide_eq_false y]; rfl
        rw [hg] at hs
        simp only [Bool.false_eq_true, if_false, List.append_nil] at hs
        refine wB ?_
        refine ⟨j + 1, c, by omega, ?_⟩
        rw [hs]
        (refine Go2.sub ⟨?_, ?_⟩ <;> repeat' (first | exact True.intro | rfl | apply And.intro))
    · obtain rfl : j = l.length := by omega
      rw [List.take_length]
      refine wB ?_
      exact fin ⟨res_sl rfl, trivial⟩
set_option maxRecDepth 100000 in
set_option maxHeartbeats 8000000 in
theorem a_part01 (l : List Msg) (cuts : List Key) (h : Bf l) (hr : Rise cuts) (k0 : ¬ 0 < cuts.length) (hl : l.length ≤ 100000000) (hl2 : cuts.length ≤ 100000000) : AFn Tryz.prog 54 [msgsA l, keysA cuts, intA ((0 : Nat) : Nat)] (msgsA (bfPart l cuts (0))) := by
    rw [← part_keep h.srt]
    refine AFn_intro Tryz.func54 rfl Tryz.ntmps54 rfl (by simp) [_] rfl fun E hE => ?_
    refine wB ?_
    refine AW_go (Go2.token 7 7 28 31 rfl rfl) ?_
    refine AW_loopI (fun j : Nat => ⟨[(0, msgsA l), (1, keysA cuts), (2, intA ((0 : Nat) : Nat)), (8, intA j), (7, .sl (some 7) 29 (((l.take j).filter (keepP cuts (0))).map Msg.av))], [(7, .tail 31 29 ((l.take j).filter (keepP cuts (0))).length)]⟩) (fun j => j ≤ l.length) (fun j => l.length - j) 0 (Nat.zero_le _) (by (refine Go2.sub ⟨?_, ?_⟩ <;> repeat' (first | exact True.intro | rfl | apply And.intro))) (fun j hj => ?_)
    have hfl := List.length_filter_le (keepP cuts (0)) (l.take j)
    rw [List.length_take] at hfl
    by_cases c : j < l.length
    · have hs := filter_snoc (keepP cuts (0)) j c
      have hjk := (Msg.spec (h.ok _ (List.getElem_mem c))).2.2.1
      have hg : keepP cuts (0) l[j] = true := by unfold keepP; rw [keepLo_zero, keepHi_out _ k0]; rfl
      rw [hg] at hs
      simp only [if_true] at hs
      refine wB ?_
      refine ⟨j + 1, c, by omega, ?_⟩
      rw [hs]
      (refine Go2.sub ⟨?_, ?_⟩ <;> repeat' (first | exact True.intro | rfl | apply And.intro))
    · obtain rfl : j = l.length := by omega
      rw [List.take_length]
      refine wB ?_
      exact fin ⟨res_sl rfl, trivial⟩
set_option maxRecDepth 100000 in
set_option maxHeartbeats 8000000 in
theorem a_part10 (l : List Msg) (cuts : List Key) (m : Nat) (h : Bf l) (hr : Rise cuts) (hm : m < cuts.length) (k0 : m + 1 < cuts.length) (hl : l.length ≤ 100000000) (hl2 : cuts.length ≤ 100000000) : AFn Tryz.prog 54 [msgsA l, keysA cuts, intA ((m + 1 : Nat) : Nat)] (msgsA (bfPart l cuts (m + 1))) := by
    rw [← part_keep h.srt]
    refine AFn_intro Tryz.func54 rfl Tryz.ntmps54 rfl (by simp) [_] rfl fun E hE => ?_
    refine wB ?_
    refine AW_go (Go2.token 7 7 28 31 rfl rfl) ?_
    refine AW_loopI (fun j : Nat => ⟨[(0, msgsA l), (1, keysA cuts), (2, intA ((m + 1 : Nat) : Nat)), (8, intA j), (7, .sl (some 7) 29 (((l.take j).filter (keepP cuts (m + 1))).map Msg.av))], [(7, .tail 31 29 ((l.take j).filter (keepP cuts (m + 1))).length)]⟩) (fun j => j ≤ l.length) (fun j => l.length - j) 0 (Nat.zero_le _) (by (refine Go2.sub ⟨?_, ?_⟩ <;> repeat' (first | exact True.intro | rfl | apply And.intro))) (fun j hj => ?_)
    have hfl := List.length_filter_le (keepP cuts (m + 1)) (l.take j)
    rw [List.length_take] at hfl
    by_cases c : j < l.length
    · have hs := filter_snoc (keepP cuts (m + 1)) j c
      have hjk := (Msg.spec (h.ok _ (List.getElem_mem c))).2.2.1
      have hc := refCmp_rank hjk (hr.ok hm)
      have hc1 := refCmp_rank hjk (hr.ok k0)
      have d0 := acall Tryz.func31 (a_refcmp l[j].key cuts[m]) (by decide +kernel) (by decide +kernel)
      have d1 := acall Tryz.func31 (a_refcmp l[j].key cuts[m + 1]) (by decide +kernel) (by decide +kernel)
      by_cases x : cuts[m].rank ≤ l[j].key.rank
      · have hp : ¬ refCmp l[j].key cuts[m] < 0 := by rw [hc, sgn_neg]; omega
        by_cases y : l[j].key.rank < cuts[m + 1].rank
        · have hq : ¬ 0 ≤ refCmp l[j].key cuts[m + 1] := by rw [hc1, sgn_ge]; omega
          have hg : keepP cuts (m + 1) l[j] = true := by unfold keepP; rw [keepLo_succ _ hm, keepHi_in _ k0, decide_eq_true x, decide_eq_true y]; rfl
          rw [hg] at hs
          simp only [if_true] at hs
          refine wB ?_
          refine ⟨j + 1, c, by omega, ?_⟩
          rw [hs]
          (refine Go2.sub ⟨?_, ?_⟩ <;> repeat' (first | exact True.intro | rfl | apply And.intro))
        · have hq : 0 ≤ refCmp l[j].key cuts[m + 1] := by rw [hc1, sgn_ge]; omega
          have hg : keepP cuts (m + 1) l[j] = false := by unfold keepP; rw [keepLo_succ _ hm, keepHi_in _ k0, decide_eq_true x, decide_eq_false y]; rfl
          rw [hg] at hs
          simp only [Bool.false_eq_true, if_false, List.append_nil] at hs
          refine wB ?_
          refine ⟨j + 1, c, by omega, ?_⟩
          rw [hs]
          (refine Go2.sub ⟨?_, ?_⟩ <;> repeat' (first | exact True.intro | rfl | apply And.intro))
      · have hp : refCmp l[j].key cuts[m] < 0 := by rw [hc, sgn_neg]; omega
        have hg : keepP cuts (m + 1) l[j] = false := by unfold keepP; rw [keepLo_succ _ hm, decide_eq_false x]; rfl
        rw [hg] at hs
        simp only [Bool.false_eq_true, if_false, List.append_nil] at hs
        refine wB ?_
        refine ⟨j + 1, c, by omega, ?_⟩
        rw [hs]
        (refine Go2.sub ⟨?_, ?_⟩ <;> repeat' (first | exact True.intro | rfl | apply And.intro))
    · obtain rfl : j = l.length := by omega
      rw [List.take_length]
      refine wB ?_
      exact fin ⟨res_sl rfl, trivial⟩
set_option maxRecDepth 100000 in
set_option maxHeartbeats 8000000 in
theorem a_part11 (l : List Msg) (cuts : List Key) (m : Nat) (h : Bf l) (hr : Rise cuts) (hm : m < cuts.length) (k0 : ¬ m + 1 < cuts.length) (hl : l.length ≤ 100000000) (hl2 : cuts.length ≤ 100000000) : AFn Tryz.prog 54 [msgsA l, keysA cuts, intA ((m + 1 : Nat) : Nat)] (msgsA (bfPart l cuts (m + 1))) := by
    rw [← part_keep h.srt]
    refine AFn_intro Tryz.func54 rfl Tryz.ntmps54 rfl (by simp) [_] rfl fun E hE => ?_
    refine wB ?_
    refine AW_go (Go2.token 7 7 28 31 rfl rfl) ?_
    refine AW_loopI (fun j : Nat => ⟨[(0, msgsA l), (1, keysA cuts), (2, intA ((m + 1 : Nat) : Nat)), (8, intA j), (7, .sl (some 7) 29 (((l.take j).filter (keepP cuts (m + 1))).map Msg.av))], [(7, .tail 31 29 ((l.take j).filter (keepP cuts (m + 1))).length)]⟩) (fun j => j ≤ l.length) (fun j => l.length - j) 0 (Nat.zero_le _) (by (refine Go2.sub ⟨?_, ?_⟩ <;> repeat' (first | exact True.intro | rfl | apply And.intro))) (fun j hj => ?_)
    have hfl := List.length_filter_le (keepP cuts (m + 1)) (l.take j)
    rw [List.length_take] at hfl
    by_cases c : j < l.length
    · have hs := filter_snoc (keepP cuts (m + 1)) j c
      have hjk := (Msg.spec (h.ok _ (List.getElem_mem c))).2.2.1
      have hc := refCmp_rank hjk (hr.ok hm)
      have d0 := acall Tryz.func31 (a_refcmp l[j].key cuts[m]) (by decide +kernel) (by decide +kernel)
      by_cases x : cuts[m].rank ≤ l[j].key.rank
      · have hp : ¬ refCmp l[j].key cuts[m] < 0 := by rw [hc, sgn_neg]; omega
        have hg : keepP cuts (m + 1) l[j] = true := by unfold keepP; rw [keepLo_succ _ hm, keepHi_out _ k0, decide_eq_true x]; rfl
        rw [hg] at hs
        simp only [if_true] at hs
        refine wB ?_
        refine ⟨j + 1, c, by omega, ?_⟩
        rw [hs]
        (refine Go2.sub ⟨?_, ?_⟩ <;> repeat' (first | exact True.intro | rfl | apply And.intro))
      · have hp : refCmp l[j].key cuts[m] < 0 := by rw [hc, sgn_neg]; omega
        have hg : keepP cuts (m + 1) l[j] = false := by unfold keepP; rw [keepLo_succ _ hm, decide_eq_false x]; rfl
        rw [hg] at hs
        simp only [Bool.false_eq_true, if_false, List.append_nil] at hs
        refine wB ?_
        refine ⟨j + 1, c, by omega, ?_⟩
        rw [hs]
        (refine Go2.sub ⟨?_, ?_⟩ <;> repeat' (first | exact True.intro | rfl | apply And.intro))
    · obtain rfl : j = l.length := by omega
      rw [List.take_length]
      refine wB ?_
      exact fin ⟨res_sl rfl, trivial⟩
theorem a_ref06part (l : List Msg) (cuts : List Key) (n : Nat) (h : Bf l) (hr : Rise cuts) (hn : n ≤ cuts.length) (hl : l.length ≤ 100000000) (hl2 : cuts.length ≤ 100000000) : AFn Tryz.prog 54 [msgsA l, keysA cuts, intA n] (msgsA (bfPart l cuts n)) := by
  cases n with
  | zero =>
    by_cases c : 0 < cuts.length
    · exact a_part00 l cuts h hr c hl hl2
    · exact a_part01 l cuts h hr c hl hl2
  | succ m =>
    by_cases c : m + 1 < cuts.length
    · exact a_part10 l cuts m h hr hn c hl hl2
    · exact a_part11 l cuts m h hr hn c hl hl2
set_option maxRecDepth 100000 in
set_option maxHeartbeats 8000000 in
theorem a_bufcheck (l : List Msg) (hl : l.length ≤ 100000000) : AFn Tryz.prog 149 [msgsA l] (boolA (msgsOkB keyCmp l)) := by
  refine AFn_intro Tryz.func149 rfl Tryz.ntmps149 rfl (by simp) [_] rfl fun E hE => ?_
  have k' : (!true) = false := rfl
  have k'' : (!false) = true := rfl
  refine wB ?_
  refine AW_loopI (fun j : Nat => ⟨[(0, msgsA l), (5, msgsA l), (6, intA l.length), (7, intA j)], []⟩) (fun j => j ≤ l.length ∧ ∀ i (hi : i < l.length), i < j → l[i].ok = true ∧ ∀ a (ha : a + 1 = i), keyCmp (l[a]'(by omega)).key l[i].key < 0) (fun j => l.length - j) 0 ⟨Nat.zero_le _, fun i _ h => by omega⟩ (by (refine Go2.sub ⟨?_, ?_⟩ <;> repeat' (first | exact True.intro | rfl | apply And.intro))) (fun j hj => ?_)
  obtain ⟨j1, j2⟩ := hj
  by_cases c : j < l.length
  · have d1 := a_msgcheck l[j]
    cases hk : l[j].ok with
    | false =>
      rw [hk] at d1
      rw [msgsOkB_false (msgsOk_nok c hk)]
      have f1 := acall Tryz.func106 (d1) (by decide +kernel) (by decide +kernel)
      refine wB ?_
      exact fin ⟨res_of rfl rfl rfl, trivial⟩
    | true =>
      rw [hk] at d1
      have f1 := acall Tryz.func106 (d1) (by decide +kernel) (by decide +kernel)
      cases j with
      | zero =>
        refine wB ?_
        refine ⟨1, ⟨c, fun i hi hij => ?_⟩, by omega, ?_⟩
        · obtain rfl : i = 0 := by omega
          exact ⟨hk, fun a ha => by omega⟩
        · (refine Go2.sub ⟨?_, ?_⟩ <;> repeat' (first | exact True.intro | rfl | apply And.intro))
      | succ m =>
        have f3 := acall Tryz.func109 (a_keycmp l[m].key l[m + 1].key) (by decide +kernel) (by decide +kernel)
        by_cases q : 0 ≤ keyCmp l[m].key l[m + 1].key
        · rw [msgsOkB_false (msgsOk_noc c q)]
          refine wB ?_
          exact fin ⟨res_of rfl rfl rfl, trivial⟩
        · refine wB ?_
          refine ⟨m + 1 + 1, ⟨c, fun i hi hij => ?_⟩, by omega, ?_⟩
          · by_cases e : i = m + 1
            · subst e
              exact ⟨hk, fun a ha => by
                have e : a = m := by omega
                subst e; exact Int.not_le.1 q⟩
            · exact j2 i hi (by omega)
          · (refine Go2.sub ⟨?_, ?_⟩ <;> repeat' (first | exact True.intro | rfl | apply And.intro))
  · rw [msgsOkB_true (fun i hi => j2 i hi (by omega))]
    refine wB ?_
    exact fin ⟨res_of rfl rfl rfl, trivial⟩
set_option maxRecDepth 100000 in
set_option maxHeartbeats 8000000 in
theorem a_ref06check (l : List Msg) (hl : l.length ≤ 100000000) : AFn Tryz.prog 74 [msgsA l] (boolA (msgsOkB refCmp l)) := by
  refine AFn_intro Tryz.func74 rfl Tryz.ntmps74 rfl (by simp) [_] rfl fun E hE => ?_
  have k' : (!true) = false := rfl
  have k'' : (!false) = true := rfl
  refine wB ?_
  refine AW_loopI (fun j : Nat => ⟨[(0, msgsA l), (3, intA j)], []⟩) (fun j => j ≤ l.length ∧ ∀ i (hi : i < l.length), i < j → l[i].ok = true ∧ ∀ a (ha : a + 1 = i), refCmp (l[a]'(by omega)).key l[i].key < 0) (fun j => l.length - j) 0 ⟨Nat.zero_le _, fun i _ h => by omega⟩ (by (refine Go2.sub ⟨?_, ?_⟩ <;> repeat' (first | exact True.intro | rfl | apply And.intro))) (fun j hj => ?_)
  obtain ⟨j1, j2⟩ := hj
  by_cases c : j < l.length
  · have d1 := a_ref05check l[j]
    cases hk : l[j].ok with
    | false =>
      rw [hk] at d1
      rw [msgsOkB_false (msgsOk_nok c hk)]
      have f1 := acall Tryz.func96 (d1) (by decide +kernel) (by decide +kernel)
      refine wB ?_
      exact fin ⟨res_of rfl rfl rfl, trivial⟩
    | true =>
      rw [hk] at d1
      have f1 := acall Tryz.func96 (d1) (by decide +kernel) (by decide +kernel)
      cases j with
      | zero =>
        refine wB ?_
        refine ⟨1, ⟨c, fun i hi hij => ?_⟩, by omega, ?_⟩
        · obtain rfl : i = 0 := by omega
          exact ⟨hk, fun a ha => by omega⟩
        · (refine Go2.sub ⟨?_, ?_⟩ <;> repeat' (first | exact True.intro | rfl | apply And.intro))
      | succ m =>
        have f3 := acall Tryz.func31 (a_refcmp l[m].key l[m + 1].key) (by decide +kernel) (by decide +kernel)
        by_cases q : 0 ≤ refCmp l[m].key l[m + 1].key
        · rw [msgsOkB_false (msgsOk_noc c q)]
          refine wB ?_
          exact fin ⟨res_of rfl rfl rfl, trivial⟩
        · refine wB ?_
          refine ⟨m + 1 + 1, ⟨c, fun i hi hij => ?_⟩, by omega, ?_⟩
          · by_cases e : i = m + 1
            · subst e
              exact ⟨hk, fun a ha => by
                have e : a = m := by omega
                subst e; exact Int.not_le.1 q⟩
            · exact j2 i hi (by omega)
          · (refine Go2.sub ⟨?_, ?_⟩ <;> repeat' (first | exact True.intro | rfl | apply And.intro))
  · rw [msgsOkB_true (fun i hi => j2 i hi (by omega))]
    refine wB ?_
    exact fin ⟨res_of rfl rfl rfl, trivial⟩
end Go.Proofs.YtonjbnoeoececaaGreat

namespace Go.Proofs.YtonjbnoeoececaaGreat
open Go Go.RowKit
set_option linter.unusedVariables false
set_option linter.unusedSimpArgs false
set_option maxRecDepth 100000

def Ent.size (e : Ent) : Int := 2 + e.key.n + e.val.n
def eSum (l : List Ent) : Int := (l.map Ent.size).sum
def lfAt (k : Key) (l : List Ent) : Nat := l.countP fun e => decide (e.key.rank < k.rank)
def Srt (l : List Ent) : Prop := l.Pairwise fun a b => a.key.rank < b.key.rank
def EOk (l : List Ent) : Prop := ∀ e ∈ l, e.key.ok = true ∧ e.val.ok = true
structure Lf (l : List Ent) : Prop where
  ok : EOk l
  srt : Srt l
/-- a key's value -/
def lfGet (k : Key) (l : List Ent) : Option Vl := (l.find? fun e => decide (e.key = k)).map (·.val)
/-- what a message makes of a key's value -/
def ap (m : Msg) (o : Option Vl) : Option Vl := if m.kind = 1 then some m.val else if m.kind = 2 then none else match o with
  | some v => some (vplus v m.add)
  | none => some (fromN m.add)
def opA (o : Option Vl) : Vl × Bool := match o with
  | some v => (v, true)
  | none => (Vl.zero, false)
theorem applyM_ap (m : Msg) (o : Option Vl) : applyM (opA o).1 (opA o).2 m = opA (ap m o) := by
  unfold applyM ap
  by_cases h1 : m.kind = 1
  · rw [if_pos h1, if_pos h1]; rfl
  · rw [if_neg h1, if_neg h1]
    by_cases h2 : m.kind = 2
    · rw [if_pos h2, if_pos h2]; rfl
    · rw [if_neg h2, if_neg h2]
      cases o <;> rfl
def newE (k : Key) (o : Option Vl) : List Ent := match o with
  | some v => [⟨k, v⟩]
  | none => []
def lfSet (l : List Ent) (k : Key) (o : Option Vl) : List Ent := l.filter (fun e => decide (e.key.rank < k.rank)) ++ (newE k o ++ l.filter (fun e => decide (k.rank < e.key.rank)))
/-- the leaf behind a message -/
def lfPut (l : List Ent) (m : Msg) : List Ent := lfSet l m.key (ap m (lfGet m.key l))
def lfAll (l : List Ent) (ms : List Msg) : List Ent := ms.foldl lfPut l

theorem lfAt_le (k : Key) (l : List Ent) : lfAt k l ≤ l.length := List.countP_le_length
theorem lfAt_cons (k : Key) (e : Ent) (l : List Ent) : lfAt k (e :: l) = lfAt k l + if e.key.rank < k.rank then 1 else 0 := by
  unfold lfAt
  rw [List.countP_cons]
  simp
theorem Srt.tail {e : Ent} {l : List Ent} (h : Srt (e :: l)) : Srt l := (List.pairwise_cons.1 h).2
theorem Srt.head {e : Ent} {l : List Ent} (h : Srt (e :: l)) : ∀ b ∈ l, e.key.rank < b.key.rank := (List.pairwise_cons.1 h).1
theorem lfAt_zero {k : Key} {l : List Ent} (h : ∀ b ∈ l, k.rank ≤ b.key.rank) : lfAt k l = 0 := by
  unfold lfAt
  rw [List.countP_eq_zero]
  intro b hb
  have := h b hb
  simp; omega
theorem lfAt_iff {k : Key} {l : List Ent} (h : Srt l) : ∀ i (hi : i < l.length), (i < lfAt k l ↔ l[i].key.rank < k.rank) := by
  induction l with
  | nil => intro i hi; cases hi
  | cons e l ih =>
    intro i hi
    rw [lfAt_cons]
    by_cases c : e.key.rank < k.rank
    · rw [if_pos c]
      cases i with
      | zero => simp [c]
      | succ i => simpa using ih h.tail i (by simpa using hi)
    · rw [if_neg c]
      have hz : lfAt k l = 0 := lfAt_zero fun b hb => by have := h.head b hb; omega
      rw [hz]
      cases i with
      | zero => simp; omega
      | succ i =>
        have hi' : i < l.length := by simpa using hi
        have := h.head l[i] (List.getElem_mem hi')
        simp; omega
theorem Srt.lt {l : List Ent} (h : Srt l) {i j : Nat} (hi : i < l.length) (hj : j < l.length) (hij : i < j) : l[i].key.rank < l[j].key.rank := List.pairwise_iff_getElem.1 h i j hi hj hij
theorem Srt.inj {l : List Ent} (h : Srt l) {a b : Ent} (ha : a ∈ l) (hb : b ∈ l) (he : a.key.rank = b.key.rank) : a = b := by
  obtain ⟨i, hi, rfl⟩ := List.mem_iff_getElem.1 ha
  obtain ⟨j, hj, rfl⟩ := List.mem_iff_getElem.1 hb
  rcases Nat.lt_trichotomy i j with c | c | c
  · have := h.lt hi hj c; omega
  · subst c; rfl
  · have := h.lt hj hi c; omega
theorem lfGet_iff {l : List Ent} (h : Srt l) (k : Key) (v : Vl) : lfGet k l = some v ↔ (⟨k, v⟩ : Ent) ∈ l := by
  unfold lfGet
  constructor
  · intro hf
    rw [Option.map_eq_some_iff] at hf
    obtain ⟨e, h1, h2⟩ := hf
    have h3 := List.mem_of_find?_eq_some h1
    have h4 := List.find?_some h1
    rw [decide_eq_true_eq] at h4
    subst h4; subst h2
    exact h3
  · intro hm
    cases hf : l.find? (fun e => decide (e.key = k)) with
    | none =>
      rw [List.find?_eq_none] at hf
      have := hf _ hm
      simp at this
    | some e =>
      have h3 := List.mem_of_find?_eq_some hf
      have h4 := List.find?_some hf
      rw [decide_eq_true_eq] at h4
      have := h.inj h3 hm (by rw [h4])
      rw [this]; rfl
theorem srt_ext : ∀ {l1 l2 : List Ent}, Srt l1 → Srt l2 → (∀ e, e ∈ l1 ↔ e ∈ l2) → l1 = l2
  | [], l2, _, _, h => by
    cases l2 with
    | nil => rfl
    | cons b l => exact absurd ((h b).2 (by simp)) (by simp)
  | a :: l1, [], _, _, h => absurd ((h a).1 (by simp)) (by simp)
  | a :: l1, b :: l2, h1, h2, h => by
    have hab : a = b := by
      have m1 := (h a).1 (by simp)
      have m2 := (h b).2 (by simp)
      rcases List.mem_cons.1 m1 with m1 | m1
      · exact m1
      · rcases List.mem_cons.1 m2 with m2 | m2
        · exact m2.symm
        · have := h2.head a m1
          have := h1.head b m2
          omega
    subst hab
    rw [srt_ext h1.tail h2.tail (fun e => ?_)]
    constructor
    · intro he
      rcases List.mem_cons.1 ((h e).1 (List.mem_cons_of_mem _ he)) with c | c
      · subst c; have := h1.head e he; omega
      · exact c
    · intro he
      rcases List.mem_cons.1 ((h e).2 (List.mem_cons_of_mem _ he)) with c | c
      · subst c; have := h2.head e he; omega
      · exact c
theorem lf_ext {l1 l2 : List Ent} (h1 : Lf l1) (h2 : Lf l2) (h : ∀ k, k.ok = true → lfGet k l1 = lfGet k l2) : l1 = l2 := by
  refine srt_ext h1.srt h2.srt fun e => ?_
  have a := lfGet_iff h1.srt e.key e.val
  have b := lfGet_iff h2.srt e.key e.val
  constructor
  · intro he
    exact b.1 ((h _ (h1.ok e he).1) ▸ a.2 he)
  · intro he
    exact a.1 ((h _ (h2.ok e he).1).symm ▸ b.2 he)
/-! ### a key's entry by its place -/
theorem get_hit {l : List Ent} (h : Srt l) {k : Key} {i : Nat} (hi : i < l.length) (he : l[i].key = k) : lfGet k l = some l[i].val := by
  rw [lfGet_iff h]
  subst he
  exact List.getElem_mem hi
theorem at_hit {l : List Ent} (h : Srt l) {k : Key} {i : Nat} (hi : i < l.length) (he : l[i].key.rank = k.rank) : lfAt k l = i := by
  have h1 := (lfAt_iff (k := k) h i hi)
  have h3 := lfAt_le k l
  rcases Nat.lt_trichotomy (lfAt k l) i with c | c | c
  · have h4 := (lfAt_iff (k := k) h (lfAt k l) (by omega))
    have := h.lt (by omega) hi c
    omega
  · exact c
  · omega
theorem get_no {l : List Ent} (h : Srt l) {k : Key} (hn : ∀ (hi : lfAt k l < l.length), l[lfAt k l].key ≠ k) : lfGet k l = none := by
  cases hg : lfGet k l with
  | none => rfl
  | some v =>
    rw [lfGet_iff h] at hg
    obtain ⟨i, hi, he⟩ := List.mem_iff_getElem.1 hg
    have := at_hit h (k := k) hi (by rw [he])
    subst this
    exact absurd (by rw [he]) (hn hi)
theorem get_none {l : List Ent} {k : Key} (hn : ∀ i (hi : i < l.length), l[i].key ≠ k) : lfGet k l = none := by
  unfold lfGet
  rw [List.find?_eq_none.2]
  · rfl
  · intro e he
    obtain ⟨i, hi, rfl⟩ := List.mem_iff_getElem.1 he
    simpa using hn i hi
theorem flt_lo {k : Key} {l : List Ent} (h : Srt l) : l.filter (fun e => decide (e.key.rank < k.rank)) = l.take (lfAt k l) := by
  induction l with
  | nil => rfl
  | cons e l ih =>
    rw [lfAt_cons]
    by_cases c : e.key.rank < k.rank
    · rw [if_pos c, List.filter_cons_of_pos (by simpa using c), List.take_succ_cons, ih h.tail]
    · rw [if_neg c, List.filter_cons_of_neg (by simpa using c)]
      have hz : lfAt k l = 0 := lfAt_zero fun b hb => by have := h.head b hb; omega
      rw [ih h.tail, hz]
      rfl
theorem flt_all {k : Key} {l : List Ent} (h : ∀ b ∈ l, k.rank < b.key.rank) : l.filter (fun e => decide (k.rank < e.key.rank)) = l := by
  rw [List.filter_eq_self]
  intro b hb
  simpa using h b hb
theorem flt_hi {k : Key} {l : List Ent} (h : Srt l) : l.filter (fun e => decide (k.rank < e.key.rank)) = l.drop (lfAt k l + if (∃ hi : lfAt k l < l.length, l[lfAt k l].key.rank = k.rank) then 1 else 0) := by
  induction l with
  | nil => simp
  | cons e l ih =>
    by_cases c : e.key.rank < k.rank
    · have e1 : lfAt k (e :: l) = lfAt k l + 1 := by rw [lfAt_cons, if_pos c]
      have e2 : (∃ hi : lfAt k (e :: l) < (e :: l).length, (e :: l)[lfAt k (e :: l)].key.rank = k.rank) ↔ (∃ hi : lfAt k l < l.length, l[lfAt k l].key.rank = k.rank) := by
        simp only [e1]
        constructor
        · rintro ⟨h1, h2⟩; exact ⟨by simpa using h1, by simpa using h2⟩
        · rintro ⟨h1, h2⟩; exact ⟨by simpa using h1, by simpa using h2⟩
      have ih' := ih h.tail
      rw [List.filter_cons_of_neg (by simp; omega), ih']
      by_cases g : ∃ hi : lfAt k l < l.length, l[lfAt k l].key.rank = k.rank
      · rw [if_pos g, if_pos (e2.2 g), e1, show lfAt k l + 1 + 1 = (lfAt k l + 1) + 1 from rfl, List.drop_succ_cons]
      · rw [if_neg g, if_neg (fun x => g (e2.1 x)), e1, Nat.add_zero, Nat.add_zero, List.drop_succ_cons]
    · have hz : lfAt k l = 0 := lfAt_zero fun b hb => by have := h.head b hb; omega
      have e1 : lfAt k (e :: l) = 0 := by rw [lfAt_cons, if_neg c, hz]
      rw [e1]
      by_cases d : e.key.rank = k.rank
      · rw [if_pos ⟨by simp [e1], by simpa [e1] using d⟩, List.filter_cons_of_neg (by simp; omega), flt_all (fun b hb => by have := h.head b hb; omega)]
        rfl
      · rw [if_neg (fun ⟨_, h2⟩ => d (by simpa [e1] using h2)), flt_all (fun b hb => by
          rcases List.mem_cons.1 hb with rfl | hb
          · omega
          · have := h.head b hb; omega)]
        rfl
theorem set_hit {l : List Ent} (h : Srt l) {k : Key} (o : Option Vl) (hi : lfAt k l < l.length) (he : l[lfAt k l].key = k) : lfSet l k o = l.take (lfAt k l) ++ (newE k o ++ l.drop (lfAt k l + 1)) := by
  unfold lfSet
  rw [flt_lo h, flt_hi h, if_pos ⟨hi, by rw [he]⟩]
theorem set_no {l : List Ent} (h : Lf l) {k : Key} (hk : k.ok = true) (o : Option Vl) (hn : ∀ (hi : lfAt k l < l.length), l[lfAt k l].key ≠ k) : lfSet l k o = l.take (lfAt k l) ++ (newE k o ++ l.drop (lfAt k l)) := by
  unfold lfSet
  rw [flt_lo h.srt, flt_hi h.srt, if_neg]
  · rfl
  · rintro ⟨hi, h2⟩
    exact hn hi ((rank_inj (h.ok _ (List.getElem_mem hi)).1 hk).1 h2)
/-! ### of a leaf with a key set -/
theorem mem_set {l : List Ent} {k : Key} {o : Option Vl} {e : Ent} : e ∈ lfSet l k o ↔ (e ∈ l ∧ e.key.rank ≠ k.rank) ∨ (e.key = k ∧ o = some e.val) := by
  unfold lfSet
  simp only [List.mem_append, List.mem_filter, decide_eq_true_eq]
  have hn : e ∈ newE k o ↔ e.key = k ∧ o = some e.val := by
    unfold newE
    cases o with
    | none => simp
    | some v =>
      simp only [List.mem_singleton, Option.some.injEq]
      constructor
      · rintro rfl; exact ⟨rfl, rfl⟩
      · rintro ⟨h1, h2⟩; cases e; simp_all
  rw [hn]
  constructor
  · rintro (⟨h1, h2⟩ | h1 | ⟨h1, h2⟩)
    · exact .inl ⟨h1, by omega⟩
    · exact .inr h1
    · exact .inl ⟨h1, by omega⟩
  · rintro (⟨h1, h2⟩ | h1)
    · rcases Nat.lt_or_gt_of_ne h2 with c | c
      · exact .inl ⟨h1, c⟩
      · exact .inr (.inr ⟨h1, c⟩)
    · exact .inr (.inl h1)
theorem srt_set {l : List Ent} (h : Srt l) (k : Key) (o : Option Vl) : Srt (lfSet l k o) := by
  unfold Srt lfSet
  have hn : ∀ e ∈ newE k o, e.key = k := fun e he => by
    unfold newE at he
    cases o with
    | none => cases he
    | some v => simp only [List.mem_singleton] at he; subst he; rfl
  rw [List.pairwise_append, List.pairwise_append]
  refine ⟨h.sublist List.filter_sublist, ⟨?_, h.sublist List.filter_sublist, fun a ha b hb => ?_⟩, fun a ha b hb => ?_⟩
  · unfold newE
    cases o with
    | none => exact List.Pairwise.nil
    | some v => exact List.pairwise_singleton ..
  · rw [hn a ha]
    simpa using (List.mem_filter.1 hb).2
  · have h1 : a.key.rank < k.rank := by simpa using (List.mem_filter.1 ha).2
    rcases List.mem_append.1 hb with hb | hb
    · rw [hn b hb]; exact h1
    · have h2 : k.rank < b.key.rank := by simpa using (List.mem_filter.1 hb).2
      omega
def OOk (o : Option Vl) : Prop := ∀ v, o = some v → v.ok = true
theorem lf_set {l : List Ent} (h : Lf l) {k : Key} (hk : k.ok = true) {o : Option Vl} (ho : OOk o) : Lf (lfSet l k o) := by
  refine ⟨fun e he => ?_, srt_set h.srt k o⟩
  rcases mem_set.1 he with ⟨h1, _⟩ | ⟨h1, h2⟩
  · exact h.ok e h1
  · exact ⟨by rw [h1]; exact hk, ho _ h2⟩
theorem get_set {l : List Ent} (h : Lf l) {k : Key} (hk : k.ok = true) (o : Option Vl) {x : Key} (hx : x.ok = true) : lfGet x (lfSet l k o) = if x = k then o else lfGet x l := by
  apply Option.ext
  intro v
  rw [lfGet_iff (srt_set h.srt k o), mem_set]
  by_cases c : x = k
  · rw [if_pos c]; subst c
    simp
  · rw [if_neg c, lfGet_iff h.srt]
    have : x.rank ≠ k.rank := fun e => c ((rank_inj hx hk).1 e)
    simp [c, this]
theorem get_ok {l : List Ent} (h : Lf l) (k : Key) : OOk (lfGet k l) := fun v hv => (h.ok _ ((lfGet_iff h.srt k v).1 hv)).2
theorem vplus_ok (v : Vl) (n : BitVec 64) : (vplus v n).ok = true := fromN_ok _
theorem ap_ok {m : Msg} (hm : m.ok = true) {o : Option Vl} (ho : OOk o) : OOk (ap m o) := by
  obtain ⟨h1, h2, h3, h4, _⟩ := Msg.spec hm
  unfold ap
  intro v hv
  split at hv
  · injection hv with hv; subst hv; exact h4
  · split at hv
    · cases hv
    · split at hv
      · injection hv with hv; subst hv; exact vplus_ok _ _
      · injection hv with hv; subst hv; exact fromN_ok _
theorem lf_put {l : List Ent} (h : Lf l) {m : Msg} (hm : m.ok = true) : Lf (lfPut l m) := lf_set h (Msg.spec hm).2.2.1 (ap_ok hm (get_ok h _))
theorem get_put {l : List Ent} (h : Lf l) {m : Msg} (hm : m.ok = true) {x : Key} (hx : x.ok = true) : lfGet x (lfPut l m) = if x = m.key then ap m (lfGet m.key l) else lfGet x l := get_set h (Msg.spec hm).2.2.1 _ hx
theorem lf_all {ms : List Msg} : ∀ {l : List Ent}, Lf l → (∀ m ∈ ms, m.ok = true) → Lf (lfAll l ms) := by
  induction ms with
  | nil => intro l h _; exact h
  | cons m ms ih => intro l h hm; exact ih (lf_put h (hm m (by simp))) (fun x hx => hm x (List.mem_cons_of_mem _ hx))
theorem lf_nil : Lf [] := ⟨(fun e h => by cases h), List.Pairwise.nil⟩
theorem set_len {l : List Ent} (k : Key) (o : Option Vl) : (lfSet l k o).length ≤ l.length + 1 := by
  unfold lfSet
  have h1 : (newE k o).length ≤ 1 := by unfold newE; cases o <;> simp
  have h2 : (l.filter (fun e => decide (e.key.rank < k.rank))).length + (l.filter (fun e => decide (k.rank < e.key.rank))).length ≤ l.length := by
    induction l with
    | nil => simp
    | cons e l ih =>
      simp only [List.filter_cons]
      split <;> split <;> simp_all <;> omega
  simp only [List.length_append]
  omega
theorem put_len (l : List Ent) (m : Msg) : (lfPut l m).length ≤ l.length + 1 := set_len _ _
theorem all_len : ∀ (ms : List Msg) (l : List Ent), (lfAll l ms).length ≤ l.length + ms.length
  | [], l => by simp [lfAll]
  | m :: ms, l => by
    have h1 := all_len ms (lfPut l m)
    have h2 := put_len l m
    simp only [lfAll, List.foldl_cons, List.length_cons] at h1 ⊢
    omega
end Go.Proofs.YtonjbnoeoececaaGreat

namespace Go.Proofs.YtonjbnoeoececaaGreat
open Go Go.RowKit
set_option linter.unusedVariables false
set_option linter.unusedSimpArgs false
set_option maxRecDepth 100000

def lfHit (k : Key) (l : List Ent) : Bool := match l[lfAt k l]? with
  | some e => decide (e.key = k)
  | none => false
theorem lfHit_at {k : Key} {l : List Ent} (hi : lfAt k l < l.length) : lfHit k l = decide (l[lfAt k l].key = k) := by
  unfold lfHit; rw [List.getElem?_eq_getElem hi]
theorem lfHit_end {k : Key} {l : List Ent} (hi : ¬ lfAt k l < l.length) : lfHit k l = false := by
  unfold lfHit; rw [List.getElem?_eq_none (by omega)]
def opL (o : Option Vl) : List AV := [(opA o).1.av, boolA (opA o).2]
attribute [local irreducible] OpOK AWops AW CondB Go2 AFn thenA inBlockA noGotoA orderOk wantedA
set_option maxRecDepth 100000 in
set_option maxHeartbeats 4000000 in
theorem a_leafplace (l : List Ent) (k : Key) (h : Srt l) (hl : l.length ≤ 1000000000) : AFn Tryz.prog 112 [entsA l, k.av] (.tup [intA (lfAt k l : Nat), boolA (lfHit k l)]) := by
  refine AFn_intro Tryz.func112 rfl Tryz.ntmps112 rfl (by simp) [_, _] rfl fun E hE => ?_
  have hle := lfAt_le k l
  refine wL ?_
  refine AW_loopI (fun j : Nat × Nat => ⟨[(0, entsA l), (3, .ptr 3 0 []), (6, .ptr 6 0 [])], [(3, .var k.av), (6, .var (.arr 2 1 [intA j.1, intA j.2]))]⟩) (fun j => j.1 ≤ lfAt k l ∧ lfAt k l ≤ j.2 ∧ j.2 ≤ l.length) (fun j => j.2 - j.1) (0, l.length) ⟨Nat.zero_le _, hle, Nat.le_refl _⟩ (by (refine Go2.sub ⟨?_, ?_⟩ <;> repeat' (first | exact True.intro | rfl | apply And.intro))) (fun j hj => ?_)
  obtain ⟨lo, hi⟩ := j
  obtain ⟨j1, j2, j3⟩ := hj
  dsimp only at j1 j2 j3 ⊢
  by_cases c : lo < hi
  · have hm : (lo + hi) / 2 < l.length := by omega
    have hit := lfAt_iff (k := k) h _ hm
    have c1 := acall Tryz.func109 (a_keycmp l[(lo + hi) / 2].key k) (by decide +kernel) (by decide +kernel)
    by_cases q : keyCmp l[(lo + hi) / 2].key k < 0
    · have q' := q
      rw [keyCmp_rank, sgn_neg] at q'
      refine wL ?_
      refine ⟨((lo + hi) / 2 + 1, hi), ⟨by dsimp only; omega, j2, j3⟩, by dsimp only; omega, ?_⟩
      (refine Go2.sub ⟨?_, ?_⟩ <;> repeat' (first | exact True.intro | rfl | apply And.intro))
    · have q' := q
      rw [keyCmp_rank, sgn_neg] at q'
      refine wL ?_
      refine ⟨(lo, (lo + hi) / 2), ⟨j1, by dsimp only; omega, by dsimp only; omega⟩, by dsimp only; omega, ?_⟩
      (refine Go2.sub ⟨?_, ?_⟩ <;> repeat' (first | exact True.intro | rfl | apply And.intro))
  · obtain rfl : lo = lfAt k l := by omega
    by_cases e : lfAt k l < l.length
    · rw [lfHit_at e]
      refine wL ?_
      exact fin ⟨res_of rfl rfl rfl, res_of rfl rfl rfl, trivial⟩
    · rw [lfHit_end e]
      refine wL ?_
      exact fin ⟨res_of rfl rfl rfl, res_of rfl rfl rfl, trivial⟩
set_option maxRecDepth 100000 in
set_option maxHeartbeats 4000000 in
theorem a_ref07find (l : List Ent) (k : Key) (h : Srt l) (hl : l.length ≤ 1000000000) : AFn Tryz.prog 32 [entsA l, k.av] (.tup [(opA (lfGet k l)).1.av, boolA (opA (lfGet k l)).2]) := by
  refine AFn_intro Tryz.func32 rfl Tryz.ntmps32 rfl (by simp) [_, _] rfl fun E hE => ?_
  refine wL ?_
  refine AW_loopI (fun j : Nat => ⟨[(0, entsA l), (3, .ptr 3 0 []), (4, .ptr 4 0 []), (6, intA j)], [(3, .var k.av), (4, .var Vl.zero.av)]⟩) (fun j => j ≤ l.length ∧ ∀ i (hi : i < l.length), i < j → l[i].key ≠ k) (fun j => l.length - j) 0 ⟨Nat.zero_le _, fun i _ h => by omega⟩ (by (refine Go2.sub ⟨?_, ?_⟩ <;> repeat' (first | exact True.intro | rfl | apply And.intro))) (fun j hj => ?_)
  obtain ⟨j1, j2⟩ := hj
  by_cases c : j < l.length
  · by_cases q : l[j].key = k
    · rw [get_hit h c q]
      refine wL ?_
      exact fin ⟨res_var rfl rfl rfl rfl, res_of rfl rfl rfl, trivial⟩
    · refine wL ?_
      refine ⟨j + 1, ⟨c, fun i hi hij => ?_⟩, by omega, ?_⟩
      · by_cases e : i = j
        · subst e; exact q
        · exact j2 i hi (by omega)
      · (refine Go2.sub ⟨?_, ?_⟩ <;> repeat' (first | exact True.intro | rfl | apply And.intro))
  · rw [get_none (fun i hi => j2 i hi (by omega))]
    refine wL ?_
    exact fin ⟨res_var rfl rfl rfl rfl, res_of rfl rfl rfl, trivial⟩
end Go.Proofs.YtonjbnoeoececaaGreat

namespace Go.Proofs.YtonjbnoeoececaaGreat
open Go Go.RowKit
set_option linter.unusedVariables false
set_option linter.unusedSimpArgs false
set_option maxRecDepth 100000

/-- what the document's loop has put out behind j entries -/
def outP (l : List Ent) (p q : Nat) (new : List Ent) (j : Nat) : List Ent := l.take (min j p) ++ ((if p < j then new else []) ++ (l.take j).drop q)
theorem outP_zero (l : List Ent) (p q : Nat) (new : List Ent) : outP l p q new 0 = [] := by simp [outP]
theorem outP_lo {l : List Ent} {p q : Nat} {new : List Ent} {j : Nat} (hp : p ≤ q) (hj : j < p) (hl : j < l.length) : outP l p q new (j + 1) = outP l p q new j ++ [l[j]] := by
  unfold outP
  rw [if_neg (by omega), if_neg (by omega), Nat.min_eq_left (by omega), Nat.min_eq_left (by omega), List.drop_eq_nil_of_le (by simp; omega), List.drop_eq_nil_of_le (by simp; omega)]
  simp only [List.append_nil]
  exact (List.take_append_getElem hl).symm
theorem drop_take_snoc {l : List Ent} {q j : Nat} (hq : q ≤ j) (hl : j < l.length) : (l.take (j + 1)).drop q = (l.take j).drop q ++ [l[j]] := by
  rw [← List.take_append_getElem hl, List.drop_append_of_le_length (by simp; omega)]
theorem outP_no {l : List Ent} {p : Nat} {new : List Ent} (hl : p < l.length) : outP l p p new (p + 1) = (outP l p p new p ++ new) ++ [l[p]] := by
  unfold outP
  rw [if_pos (by omega), if_neg (by omega), Nat.min_eq_right (by omega), Nat.min_self, drop_take_snoc (Nat.le_refl _) hl, List.drop_eq_nil_of_le (by simp; omega)]
  simp
theorem outP_hit {l : List Ent} {p : Nat} {new : List Ent} (hl : p < l.length) : outP l p (p + 1) new (p + 1) = outP l p (p + 1) new p ++ new := by
  unfold outP
  rw [if_pos (by omega), if_neg (by omega), Nat.min_eq_right (by omega), Nat.min_self, List.drop_eq_nil_of_le (by simp; omega), List.drop_eq_nil_of_le (by simp; omega)]
  simp
theorem outP_hi {l : List Ent} {p q : Nat} {new : List Ent} {j : Nat} (hq : q ≤ j) (hj : p < j) (hl : j < l.length) : outP l p q new (j + 1) = outP l p q new j ++ [l[j]] := by
  unfold outP
  rw [if_pos (by omega), if_pos (by omega), Nat.min_eq_right (by omega), Nat.min_eq_right (by omega), drop_take_snoc hq hl]
  simp
theorem outP_end {l : List Ent} {p q : Nat} {new : List Ent} (hp : p < l.length) : outP l p q new l.length = l.take p ++ (new ++ l.drop q) := by
  unfold outP
  rw [if_pos hp, Nat.min_eq_right (by omega), List.take_length]
theorem outP_end' {l : List Ent} {p q : Nat} {new : List Ent} (hp : p = l.length) (hq : p ≤ q) : outP l p q new l.length ++ new = l.take p ++ (new ++ l.drop q) := by
  unfold outP
  rw [if_neg (by omega), Nat.min_eq_left (by omega), List.take_length, List.drop_eq_nil_of_le (by omega)]
  subst hp
  simp
theorem outP_len {l : List Ent} {p q : Nat} {new : List Ent} (j : Nat) (hn : new.length ≤ 1) : (outP l p q new j).length ≤ 2 * l.length + 1 := by
  unfold outP
  simp only [List.length_append, List.length_take, List.length_drop]
  split <;> simp <;> omega
attribute [local irreducible] OpOK AWops AW CondB Go2 AFn thenA inBlockA noGotoA orderOk wantedA
set_option maxRecDepth 100000 in
set_option maxHeartbeats 8000000 in
theorem a_ref07put (l : List Ent) (m : Msg) (h : Lf l) (hm : m.key.ok = true) (hl : l.length ≤ 1000000000) : AFn Tryz.prog 36 [entsA l, m.av] (entsA (lfPut l m)) := by
  refine AFn_intro Tryz.func36 rfl Tryz.ntmps36 rfl (by simp) [_] rfl fun E hE => ?_
  have c1 := a_ref07find l m.key h.srt hl
  have c2 := a_refapply (opA (lfGet m.key l)).1 (opA (lfGet m.key l)).2 m
  rw [applyM_ap] at c2
  unfold lfPut
  have d1 := acall Tryz.func32 (c1) (by decide +kernel) (by decide +kernel)
  have d2 := acall Tryz.func57 (c2) (by decide +kernel) (by decide +kernel)
  generalize ap m (lfGet m.key l) = r at d2 ⊢
  have hnt : (!true) = false := rfl
  have hnf : (!false) = true := rfl
  have hple := lfAt_le m.key l
  have hnl : (newE m.key r).length ≤ 1 := by unfold newE; cases r <;> simp
  obtain ⟨q, hq, hset, hcase⟩ : ∃ q, lfAt m.key l ≤ q ∧ lfSet l m.key r = l.take (lfAt m.key l) ++ (newE m.key r ++ l.drop q) ∧ ∀ (hi : lfAt m.key l < l.length), (q = lfAt m.key l + 1 ∧ refCmp l[lfAt m.key l].key m.key = 0) ∨ (q = lfAt m.key l ∧ 0 < refCmp l[lfAt m.key l].key m.key) := by
    by_cases e : ∃ hi : lfAt m.key l < l.length, l[lfAt m.key l].key = m.key
    · obtain ⟨hi, e⟩ := e
      exact ⟨_, Nat.le_succ _, set_hit h.srt r hi e, fun _ => .inl ⟨rfl, by rw [refCmp_rank (h.ok _ (List.getElem_mem hi)).1 hm, e, sgn_same]⟩⟩
    · refine ⟨_, Nat.le_refl _, set_no h hm r (fun hi e' => e ⟨hi, e'⟩), fun hi => .inr ⟨rfl, ?_⟩⟩
      have ho := (h.ok _ (List.getElem_mem hi)).1
      rw [refCmp_rank ho hm, sgn_pos]
      have h1 := (lfAt_iff (k := m.key) h.srt _ hi)
      have h2 : l[lfAt m.key l].key.rank ≠ m.key.rank := fun e' => e ⟨hi, (rank_inj ho hm).1 e'⟩
      omega
  rw [hset]
  have hlo : ∀ j (hj : j < l.length), j < lfAt m.key l → refCmp l[j].key m.key < 0 := fun j hj c => by
    rw [refCmp_rank (h.ok _ (List.getElem_mem hj)).1 hm, sgn_neg]; exact (lfAt_iff h.srt j hj).1 c
  have hhi : ∀ j (hj : j < l.length), lfAt m.key l < j → 0 < refCmp l[j].key m.key := fun j hj c => by
    rw [refCmp_rank (h.ok _ (List.getElem_mem hj)).1 hm, sgn_pos]
    have h1 := h.srt.lt (by omega) hj c
    have h2 := lfAt_iff (k := m.key) h.srt (lfAt m.key l) (by omega)
    omega
  generalize lfAt m.key l = p at hq hcase hlo hhi hple ⊢
  refine wB ?_
  refine AW_go (Go2.token 9 9 25 63 rfl rfl) ?_
  refine AW_loopI (fun j : Nat => ⟨[(0, entsA l), (3, .ptr 3 0 []), (7, .ptr 7 0 []), (8, boolA (opA r).2), (9, .sl (some 9) 26 ((outP l p q (newE m.key r) j).map Ent.av)), (10, boolA (decide (p < j))), (11, intA j)], [(3, .var m.av), (7, .var (opA r).1.av), (9, .tail 63 26 (outP l p q (newE m.key r) j).length)]⟩) (fun j => j ≤ l.length) (fun j => l.length - j) 0 (Nat.zero_le _) (by rw [outP_zero, decide_eq_false (Nat.not_lt_zero p)]; (refine Go2.sub ⟨?_, ?_⟩ <;> repeat' (first | exact True.intro | rfl | apply And.intro))) (fun j hj => ?_)
  have hol := outP_len (l := l) (p := p) (q := q) (new := newE m.key r) j hnl
  by_cases c : j < l.length
  · have d3 := acall Tryz.func31 (a_refcmp l[j].key m.key) (by decide +kernel) (by decide +kernel)
    rcases Nat.lt_trichotomy j p with c1 | c1 | c1
    · have hc := hlo j c c1
      have hs := outP_lo (new := newE m.key r) hq c1 c
      refine wB ?_
      refine ⟨j + 1, c, by omega, ?_⟩
      rw [hs, show decide (p < j + 1) = decide (p < j) from by rw [decide_eq_false (by omega), decide_eq_false (by omega)]]
      (refine Go2.sub ⟨?_, ?_⟩ <;> repeat' (first | exact True.intro | rfl | apply And.intro))
    · subst c1
      have hb : (!decide (j < j)) = true := by simp
      rcases hcase c with ⟨hqe, hc⟩ | ⟨hqe, hc⟩
      · subst hqe
        have hs := outP_hit (new := newE m.key r) c
        cases r with
        | none =>
          refine wB ?_
          refine ⟨j + 1, c, by omega, ?_⟩
          rw [hs, decide_eq_true (Nat.lt_succ_self j)]
          simp only [newE, List.append_nil]
          (refine Go2.sub ⟨?_, ?_⟩ <;> repeat' (first | exact True.intro | rfl | apply And.intro))
        | some v =>
          refine wB ?_
          refine ⟨j + 1, c, by omega, ?_⟩
          rw [hs, decide_eq_true (Nat.lt_succ_self j)]
          (refine Go2.sub ⟨?_, ?_⟩ <;> repeat' (first | exact True.intro | rfl | apply And.intro))
      · obtain rfl : j = q := hqe.symm
        have hs := outP_no (new := newE m.key r) c
        cases r with
        | none =>
          refine wB ?_
          refine ⟨j + 1, c, by omega, ?_⟩
          rw [hs, decide_eq_true (Nat.lt_succ_self j)]
          simp only [newE, List.append_nil]
          (refine Go2.sub ⟨?_, ?_⟩ <;> repeat' (first | exact True.intro | rfl | apply And.intro))
        | some v =>
          have hn1 : (outP l j j (newE m.key (some v)) j ++ ([⟨m.key, v⟩] : List Ent)).length ≤ 2 * l.length + 2 := by simp; omega
          refine wB ?_
          refine ⟨j + 1, c, by omega, ?_⟩
          rw [hs, decide_eq_true (Nat.lt_succ_self j)]
          (refine Go2.sub ⟨?_, ?_⟩ <;> repeat' (first | exact True.intro | rfl | apply And.intro))
    · have hc := hhi j c c1
      have hb : (!decide (p < j)) = false := by simp; omega
      have hqj : q ≤ j := by rcases hcase (by omega) with ⟨e, _⟩ | ⟨e, _⟩ <;> omega
      have hs := outP_hi (new := newE m.key r) hqj c1 c
      refine wB ?_
      refine ⟨j + 1, c, by omega, ?_⟩
      rw [hs, show decide (p < j + 1) = decide (p < j) from by rw [decide_eq_true (by omega), decide_eq_true (by omega)]]
      (refine Go2.sub ⟨?_, ?_⟩ <;> repeat' (first | exact True.intro | rfl | apply And.intro))
  · obtain rfl : j = l.length := by omega
    by_cases e : p < l.length
    · have hb : (!decide (p < l.length)) = false := by simp; omega
      rw [← outP_end e]
      refine wB ?_
      exact fin ⟨res_sl rfl, trivial⟩
    · have hb : (!decide (p < l.length)) = true := by simp; omega
      have hs := outP_end' (new := newE m.key r) (show p = l.length by omega) hq
      cases r with
      | none =>
        rw [← hs]
        simp only [newE, List.append_nil]
        refine wB ?_
        exact fin ⟨res_sl rfl, trivial⟩
      | some v =>
        rw [← hs]
        refine wB ?_
        exact fin ⟨res_sl rfl, trivial⟩
end Go.Proofs.YtonjbnoeoececaaGreat

namespace Go.Proofs.YtonjbnoeoececaaGreat
open Go Go.RowKit
set_option linter.unusedVariables false
set_option linter.unusedSimpArgs false
set_option maxRecDepth 100000

section
variable {E : Env} {nt : Nat} {ops : Array Oper} {T : Nat → Option AV} {H : Hp} {d : Option Nat} {ty : TypeId} {pos : String} {af : Array Edge} {gd : Option (Nat × Bool)}
theorem o_make0 {α : Type} (f : α → AV) {t e : TypeId} {es bytes : Nat} {ea : Bool} {x y : Operand} {k k' : IntKind} {n : Nat} {g : Nat} (hd : dOk nt (some g) = true) (hs : tabT.ti t = some (.sl e (es + 1) bytes ea)) (hx : evalO T x = some (.v (.int k 0))) (hy : evalO T y = some (.v (.int k' (n : Nat)))) (hg : H g = none) (hb : bytes * n ≤ 140737488355328) (hn : n ≤ 9223372036854775807) :
    OpOK Tryz.prog E nt ops ⟨some g, .makeSlice t x y, ty, pos, af, gd⟩ T H [] ⟨.sl (some g) (es + 1) (([] : List α).map f), [(g, .tail e (es + 1) ([] : List α).length)]⟩ := ok_make0 tabT hd hs hx hy hg hb hn
end
attribute [local irreducible] OpOK AWops AW CondB Go2 AFn thenA inBlockA noGotoA orderOk wantedA
set_option maxRecDepth 100000 in
set_option maxHeartbeats 8000000 in
theorem a_leafput (l : List Ent) (m : Msg) (h : Lf l) (hm : m.key.ok = true) (hk : 1 ≤ m.kind ∧ m.kind ≤ 3) (hl : l.length ≤ 1000000000) : AFn Tryz.prog 105 [entsA l, m.av] (entsA (lfPut l m)) := by
  refine AFn_intro Tryz.func105 rfl Tryz.ntmps105 rfl (by simp) [_] rfl fun E hE => ?_
  have c1 := a_leafplace l m.key h.srt hl
  have c2 := a_apply (opA (lfGet m.key l)).1 (opA (lfGet m.key l)).2 m hk
  rw [applyM_ap] at c2
  have hple := lfAt_le m.key l
  unfold lfPut
  by_cases e : ∃ hi : lfAt m.key l < l.length, l[lfAt m.key l].key = m.key
  · obtain ⟨hi, e⟩ := e
    rw [set_hit h.srt _ hi e]
    rw [get_hit h.srt hi e] at c2 ⊢
    rw [lfHit_at hi, decide_eq_true e] at c1
    have hd : (l.drop (lfAt m.key l + 1)).length ≤ l.length := by simp
    generalize lfAt m.key l = p at c1 hple hi e hd ⊢
    have d1 := acall Tryz.func112 (c1) (by decide +kernel) (by decide +kernel)
    have d2 := acall Tryz.func113 (c2) (by decide +kernel) (by decide +kernel)
    generalize ap m (some l[p].val) = r at d2 ⊢
    have hp : (l.take p).length ≤ l.length := by rw [List.length_take]; omega
    cases r with
    | none =>
      have d3 : ACall 113 [l[p].val.av, boolA true, m.av] (.tup [Vl.zero.av, boolA false]) := d2
      rw [show l.take p ++ (newE m.key none ++ l.drop (p + 1)) = ([] ++ l.take p) ++ l.drop (p + 1) from by simp [newE]]
      refine wL ?_
      (apply Wb; (focus (exact o_make0 Ent.av (n := l.length + 1) rfl rfl rfl rfl rfl (by omega) (by omega))); (focus (first | exact want_n | exact want_g rfl (by with_reducible rfl))))
      refine wL ?_
      exact fin ⟨res_sl rfl, trivial⟩
    | some v =>
      have d3 : ACall 113 [l[p].val.av, boolA true, m.av] (.tup [v.av, boolA true]) := d2
      rw [show l.take p ++ (newE m.key (some v) ++ l.drop (p + 1)) = (([] ++ l.take p) ++ [⟨m.key, v⟩]) ++ l.drop (p + 1) from by simp [newE]]
      refine wL ?_
      (apply Wb; (focus (exact o_make0 Ent.av (n := l.length + 1) rfl rfl rfl rfl rfl (by omega) (by omega))); (focus (first | exact want_n | exact want_g rfl (by with_reducible rfl))))
      refine wL ?_
      refine Was 55 (AV.sl (some 55) 26 [Ent.av ⟨m.key, v⟩]) rfl ?_
      refine wL ?_
      exact fin ⟨res_sl rfl, trivial⟩
  · have hn : ∀ hi : lfAt m.key l < l.length, l[lfAt m.key l].key ≠ m.key := fun hi e' => e ⟨hi, e'⟩
    rw [set_no h hm _ hn]
    rw [get_no h.srt hn] at c2 ⊢
    have c1' : AFn Tryz.prog 112 [entsA l, m.key.av] (.tup [intA (lfAt m.key l : Nat), boolA false]) := by
      by_cases hi : lfAt m.key l < l.length
      · rwa [lfHit_at hi, decide_eq_false (hn hi)] at c1
      · rwa [lfHit_end hi] at c1
    clear c1 hn e
    generalize lfAt m.key l = p at c1' hple ⊢
    have d1 := acall Tryz.func112 (c1') (by decide +kernel) (by decide +kernel)
    have d2 := acall Tryz.func113 (c2) (by decide +kernel) (by decide +kernel)
    generalize ap m none = r at d2 ⊢
    have hp : (l.take p).length ≤ l.length := by rw [List.length_take]; omega
    cases r with
    | none =>
      have d3 : ACall 113 [Vl.zero.av, boolA false, m.av] (.tup [Vl.zero.av, boolA false]) := d2
      rw [show l.take p ++ (newE m.key none ++ l.drop (p)) = ([] ++ l.take p) ++ l.drop (p) from by simp [newE]]
      refine wL ?_
      (apply Wb; (focus (exact o_make0 Ent.av (n := l.length + 1) rfl rfl rfl rfl rfl (by omega) (by omega))); (focus (first | exact want_n | exact want_g rfl (by with_reducible rfl))))
      refine wL ?_
      exact fin ⟨res_sl rfl, trivial⟩
    | some v =>
      have d3 : ACall 113 [Vl.zero.av, boolA false, m.av] (.tup [v.av, boolA true]) := d2
      rw [show l.take p ++ (newE m.key (some v) ++ l.drop (p)) = (([] ++ l.take p) ++ [⟨m.key, v⟩]) ++ l.drop (p) from by simp [newE]]
      refine wL ?_
      (apply Wb; (focus (exact o_make0 Ent.av (n := l.length + 1) rfl rfl rfl rfl rfl (by omega) (by omega))); (focus (first | exact want_n | exact want_g rfl (by with_reducible rfl))))
      refine wL ?_
      refine Was 55 (AV.sl (some 55) 26 [Ent.av ⟨m.key, v⟩]) rfl ?_
      refine wL ?_
      exact fin ⟨res_sl rfl, trivial⟩
end Go.Proofs.YtonjbnoeoececaaGreat

namespace Go.Proofs.YtonjbnoeoececaaGreat
open Go Go.RowKit
set_option linter.unusedVariables false
set_option linter.unusedSimpArgs false
set_option maxRecDepth 100000

theorem lfAll_snoc (l : List Ent) (ms : List Msg) (j : Nat) (h : j < ms.length) : lfAll l (ms.take (j + 1)) = lfPut (lfAll l (ms.take j)) ms[j] := by
  unfold lfAll
  rw [← List.take_append_getElem h, List.foldl_append]
  rfl
def EBd (l : List Ent) : Prop := ∀ e ∈ l, (0 ≤ e.key.n ∧ e.key.n ≤ 8) ∧ (0 ≤ e.val.n ∧ e.val.n ≤ 16)
theorem EOk.bd {l : List Ent} (h : EOk l) : EBd l := fun e he => ⟨Key.n_le (h e he).1, Vl.n_le (h e he).2⟩
theorem eSum_nil : eSum [] = 0 := rfl
theorem eSum_append (a b : List Ent) : eSum (a ++ b) = eSum a + eSum b := by simp [eSum]
theorem eSum_snoc (l : List Ent) (j : Nat) (h : j < l.length) : eSum (l.take (j + 1)) = eSum (l.take j) + l[j].size := by
  rw [← List.take_append_getElem h, eSum_append]
  simp [eSum]
theorem EBd.sum : ∀ {l : List Ent}, EBd l → 2 * (l.length : Int) ≤ eSum l ∧ eSum l ≤ 26 * (l.length : Int)
  | [], _ => by simp [eSum]
  | e :: l, h => by
    have h1 := EBd.sum (l := l) (fun x hx => h x (List.mem_cons_of_mem _ hx))
    have h2 := h e (by simp)
    have h3 : eSum (e :: l) = e.size + eSum l := by simp [eSum]
    unfold Ent.size at h3
    rw [h3]
    simp only [List.length_cons]
    omega
theorem EBd.take {l : List Ent} (h : EBd l) (j : Nat) : EBd (l.take j) := fun e he => h e (List.mem_of_mem_take he)
theorem EBd.drop {l : List Ent} (h : EBd l) (j : Nat) : EBd (l.drop j) := fun e he => h e (List.mem_of_mem_drop he)
/-- entries of a leaf, by neighbours -/
def EntsOk (cmp : Key → Key → Int) (l : List Ent) : Prop := ∀ j (h : j < l.length), l[j].key.ok = true ∧ l[j].val.ok = true ∧ ∀ i (hi : i + 1 = j), cmp (l[i]'(by omega)).key l[j].key < 0
noncomputable def entsOkB (cmp : Key → Key → Int) (l : List Ent) : Bool := @decide (EntsOk cmp l) (Classical.propDecidable _)
theorem entsOkB_true {cmp : Key → Key → Int} {l : List Ent} (h : EntsOk cmp l) : entsOkB cmp l = true := by unfold entsOkB; exact @decide_eq_true _ (Classical.propDecidable _) h
theorem entsOkB_false {cmp : Key → Key → Int} {l : List Ent} (h : ¬ EntsOk cmp l) : entsOkB cmp l = false := by unfold entsOkB; exact @decide_eq_false _ (Classical.propDecidable _) h
theorem entsOk_ref (l : List Ent) : EntsOk refCmp l ↔ EntsOk keyCmp l := by
  constructor <;>
  · intro h j hj
    obtain ⟨h1, h2, h3⟩ := h j hj
    refine ⟨h1, h2, fun i hi => ?_⟩
    have := h3 i hi
    first
      | rwa [refCmp_key (h i (by omega)).1 h1] at this
      | rwa [refCmp_key (h i (by omega)).1 h1]
theorem entsOkB_ref (l : List Ent) : entsOkB refCmp l = entsOkB keyCmp l := by
  by_cases c : EntsOk keyCmp l
  · rw [entsOkB_true c, entsOkB_true ((entsOk_ref l).2 c)]
  · rw [entsOkB_false c, entsOkB_false (fun h => c ((entsOk_ref l).1 h))]
theorem Lf.ents {l : List Ent} (h : Lf l) : EntsOk keyCmp l := fun j hj => ⟨(h.ok _ (List.getElem_mem hj)).1, (h.ok _ (List.getElem_mem hj)).2, fun i hi => by
  rw [keyCmp_rank, sgn_neg]; exact h.srt.lt (by omega) hj (by omega)⟩
theorem EntsOk.eok {cmp : Key → Key → Int} {l : List Ent} (h : EntsOk cmp l) : EOk l := fun e he => by
  obtain ⟨j, hj, rfl⟩ := List.mem_iff_getElem.1 he
  exact ⟨(h j hj).1, (h j hj).2.1⟩
attribute [local irreducible] OpOK AWops AW CondB Go2 AFn thenA inBlockA noGotoA orderOk wantedA
set_option maxRecDepth 100000 in
set_option maxHeartbeats 8000000 in
theorem a_leafall (l : List Ent) (ms : List Msg) (h : Lf l) (hm : ∀ m ∈ ms, m.ok = true) (hl : l.length ≤ 100000000) (hl2 : ms.length ≤ 100000000) : AFn Tryz.prog 92 [entsA l, msgsA ms] (entsA (lfAll l ms)) := by
  refine AFn_intro Tryz.func92 rfl Tryz.ntmps92 rfl (by simp) [_] rfl fun E hE => ?_
  refine wB ?_
  refine AW_loopI (fun j : Nat => ⟨[(0, entsA (lfAll l (ms.take j))), (7, msgsA ms), (8, intA ms.length), (9, intA j)], []⟩) (fun j => j ≤ ms.length) (fun j => ms.length - j) 0 (Nat.zero_le _) (by (refine Go2.sub ⟨?_, ?_⟩ <;> repeat' (first | exact True.intro | rfl | apply And.intro))) (fun j hj => ?_)
  have hlen := all_len (ms.take j) l
  rw [List.length_take] at hlen
  have hlf := lf_all (ms := ms.take j) h (fun m hm' => hm m (List.mem_of_mem_take hm'))
  by_cases c : j < ms.length
  · have hmj := Msg.spec (hm ms[j] (List.getElem_mem c))
    have hs := lfAll_snoc l ms j c
    have d1 := acall Tryz.func105 (a_leafput (lfAll l (ms.take j)) ms[j] hlf hmj.2.2.1 ⟨hmj.1, hmj.2.1⟩ (by omega)) (by decide +kernel) (by decide +kernel)
    refine wB ?_
    refine ⟨j + 1, c, by omega, ?_⟩
    rw [hs]
    (refine Go2.sub ⟨?_, ?_⟩ <;> repeat' (first | exact True.intro | rfl | apply And.intro))
  · obtain rfl : j = ms.length := by omega
    rw [List.take_length]
    refine wB ?_
    exact fin ⟨res_sl rfl, trivial⟩
set_option maxRecDepth 100000 in
set_option maxHeartbeats 8000000 in
theorem a_ref07all (l : List Ent) (ms : List Msg) (h : Lf l) (hm : ∀ m ∈ ms, m.ok = true) (hl : l.length ≤ 100000000) (hl2 : ms.length ≤ 100000000) : AFn Tryz.prog 80 [entsA l, msgsA ms] (entsA (lfAll l ms)) := by
  refine AFn_intro Tryz.func80 rfl Tryz.ntmps80 rfl (by simp) [_] rfl fun E hE => ?_
  refine wB ?_
  refine AW_go (Go2.weak 5 rfl) ?_
  refine AW_loopI (fun j : Nat => ⟨[(1, msgsA ms), (5, entsA (lfAll l (ms.take j))), (6, intA j)], []⟩) (fun j => j ≤ ms.length) (fun j => ms.length - j) 0 (Nat.zero_le _) (by (refine Go2.sub ⟨?_, ?_⟩ <;> repeat' (first | exact True.intro | rfl | apply And.intro))) (fun j hj => ?_)
  have hlen := all_len (ms.take j) l
  rw [List.length_take] at hlen
  have hlf := lf_all (ms := ms.take j) h (fun m hm' => hm m (List.mem_of_mem_take hm'))
  by_cases c : j < ms.length
  · have hmj := Msg.spec (hm ms[j] (List.getElem_mem c))
    have hs := lfAll_snoc l ms j c
    have d1 := acall Tryz.func36 (a_ref07put (lfAll l (ms.take j)) ms[j] hlf hmj.2.2.1 (by omega)) (by decide +kernel) (by decide +kernel)
    refine wB ?_
    refine ⟨j + 1, c, by omega, ?_⟩
    rw [hs]
    (refine Go2.sub ⟨?_, ?_⟩ <;> repeat' (first | exact True.intro | rfl | apply And.intro))
  · obtain rfl : j = ms.length := by omega
    rw [List.take_length]
    refine wB ?_
    exact fin ⟨res_sl rfl, trivial⟩
set_option maxRecDepth 100000 in
set_option maxHeartbeats 8000000 in
theorem a_leafsize (e : Ent) (h : (0 ≤ e.key.n ∧ e.key.n ≤ 8) ∧ (0 ≤ e.val.n ∧ e.val.n ≤ 16)) : AFn Tryz.prog 101 [e.av] (intA e.size) := by
  refine AFn_intro Tryz.func101 rfl Tryz.ntmps101 rfl (by simp) [_] rfl fun E hE => ?_
  unfold Ent.size
  refine wB ?_
  exact fin ⟨res_of rfl rfl rfl, trivial⟩
set_option maxRecDepth 100000 in
set_option maxHeartbeats 8000000 in
theorem a_leafbytes (l : List Ent) (h : EBd l) (hl : l.length ≤ 100000000) : AFn Tryz.prog 100 [entsA l] (intA (eSum l)) := by
  refine AFn_intro Tryz.func100 rfl Tryz.ntmps100 rfl (by simp) [_] rfl fun E hE => ?_
  refine wB ?_
  refine AW_loopI (fun j : Nat => ⟨[(6, entsA l), (7, intA l.length), (8, intA j), (3, intA (eSum (l.take j)))], []⟩) (fun j => j ≤ l.length) (fun j => l.length - j) 0 (Nat.zero_le _) (by (refine Go2.sub ⟨?_, ?_⟩ <;> repeat' (first | exact True.intro | rfl | apply And.intro))) (fun j hj => ?_)
  have hb := (h.take j).sum
  rw [List.length_take] at hb
  by_cases c : j < l.length
  · have hs := eSum_snoc l j c
    have he := h l[j] (List.getElem_mem c)
    have hz : l[j].size = 2 + l[j].key.n + l[j].val.n := rfl
    have d1 := acall Tryz.func101 (a_leafsize l[j] he) (by decide +kernel) (by decide +kernel)
    refine wB ?_
    refine ⟨j + 1, c, by omega, ?_⟩
    rw [hs]
    (refine Go2.sub ⟨?_, ?_⟩ <;> repeat' (first | exact True.intro | rfl | apply And.intro))
  · obtain rfl : j = l.length := by omega
    rw [List.take_length]
    refine wB ?_
    exact fin ⟨res_of rfl rfl rfl, trivial⟩
set_option maxRecDepth 100000 in
set_option maxHeartbeats 8000000 in
theorem a_ref07bytes (l : List Ent) (h : EBd l) (hl : l.length ≤ 100000000) : AFn Tryz.prog 64 [entsA l] (intA (eSum l)) := by
  refine AFn_intro Tryz.func64 rfl Tryz.ntmps64 rfl (by simp) [_] rfl fun E hE => ?_
  refine wB ?_
  refine AW_loopI (fun j : Nat => ⟨[(0, entsA l), (3, intA (eSum (l.take j))), (4, intA j)], []⟩) (fun j => j ≤ l.length) (fun j => l.length - j) 0 (Nat.zero_le _) (by (refine Go2.sub ⟨?_, ?_⟩ <;> repeat' (first | exact True.intro | rfl | apply And.intro))) (fun j hj => ?_)
  have hb := (h.take j).sum
  rw [List.length_take] at hb
  by_cases c : j < l.length
  · have hs : eSum (l.take (j + 1)) = eSum (l.take j) + 2 + l[j].key.n + l[j].val.n := by
      rw [eSum_snoc l j c]; unfold Ent.size; omega
    have he := h l[j] (List.getElem_mem c)
    refine wB ?_
    refine ⟨j + 1, c, by omega, ?_⟩
    rw [hs]
    (refine Go2.sub ⟨?_, ?_⟩ <;> repeat' (first | exact True.intro | rfl | apply And.intro))
  · obtain rfl : j = l.length := by omega
    rw [List.take_length]
    refine wB ?_
    exact fin ⟨res_of rfl rfl rfl, trivial⟩
set_option maxRecDepth 100000 in
set_option maxHeartbeats 8000000 in
theorem a_ref07same (l : List Ent) (hl : l.length ≤ 100000000) : AFn Tryz.prog 68 [entsA l, entsA l] (boolA true) := by
  refine AFn_intro Tryz.func68 rfl Tryz.ntmps68 rfl (by simp) [_] rfl fun E hE => ?_
  refine wL ?_
  refine AW_loopI (fun j : Nat => ⟨[(0, entsA l), (1, entsA l), (5, intA j)], []⟩) (fun j => j ≤ l.length) (fun j => l.length - j) 0 (Nat.zero_le _) (by (refine Go2.sub ⟨?_, ?_⟩ <;> repeat' (first | exact True.intro | rfl | apply And.intro))) (fun j hj => ?_)
  by_cases c : j < l.length
  · have hs : ¬ l[j] ≠ l[j] := fun h => h rfl
    refine wL ?_
    refine ⟨j + 1, c, by omega, ?_⟩
    (refine Go2.sub ⟨?_, ?_⟩ <;> repeat' (first | exact True.intro | rfl | apply And.intro))
  · refine wL ?_
    exact fin ⟨res_of rfl rfl rfl, trivial⟩
end Go.Proofs.YtonjbnoeoececaaGreat

namespace Go.Proofs.YtonjbnoeoececaaGreat
open Go Go.RowKit
set_option linter.unusedVariables false
set_option linter.unusedSimpArgs false
set_option maxRecDepth 100000

theorem entsOk_nok {cmp : Key → Key → Int} {l : List Ent} {j : Nat} (h : j < l.length) (e : l[j].key.ok = false) : ¬ EntsOk cmp l := fun k => by
  have := (k j h).1
  rw [e] at this; cases this
theorem entsOk_nov {cmp : Key → Key → Int} {l : List Ent} {j : Nat} (h : j < l.length) (e : l[j].val.ok = false) : ¬ EntsOk cmp l := fun k => by
  have := (k j h).2.1
  rw [e] at this; cases this
theorem entsOk_noc {cmp : Key → Key → Int} {l : List Ent} {i : Nat} (h : i + 1 < l.length) (e : 0 ≤ cmp l[i].key l[i + 1].key) : ¬ EntsOk cmp l := fun k => by
  have := (k (i + 1) h).2.2 i rfl
  omega
attribute [local irreducible] OpOK AWops AW CondB Go2 AFn thenA inBlockA noGotoA orderOk wantedA
set_option maxRecDepth 100000 in
set_option maxHeartbeats 8000000 in
theorem a_leafcheck (l : List Ent) (hl : l.length ≤ 100000000) : AFn Tryz.prog 144 [entsA l] (boolA (entsOkB keyCmp l)) := by
  refine AFn_intro Tryz.func144 rfl Tryz.ntmps144 rfl (by simp) [_] rfl fun E hE => ?_
  have k' : (!true) = false := rfl
  have k'' : (!false) = true := rfl
  refine wL ?_
  refine AW_loopI (fun j : Nat => ⟨[(0, entsA l), (5, entsA l), (6, intA l.length), (7, intA j)], []⟩) (fun j => j ≤ l.length ∧ ∀ i (hi : i < l.length), i < j → l[i].key.ok = true ∧ l[i].val.ok = true ∧ ∀ a (ha : a + 1 = i), keyCmp (l[a]'(by omega)).key l[i].key < 0) (fun j => l.length - j) 0 ⟨Nat.zero_le _, fun i _ h => by omega⟩ (by (refine Go2.sub ⟨?_, ?_⟩ <;> repeat' (first | exact True.intro | rfl | apply And.intro))) (fun j hj => ?_)
  obtain ⟨j1, j2⟩ := hj
  by_cases c : j < l.length
  · have d1 := a_keycheck l[j].key
    have d2 := a_vlcheck l[j].val
    cases hk : l[j].key.ok with
    | false =>
      rw [hk] at d1
      rw [entsOkB_false (entsOk_nok c hk)]
      have f1 := acall Tryz.func114 (d1) (by decide +kernel) (by decide +kernel)
      refine wL ?_
      exact fin ⟨res_of rfl rfl rfl, trivial⟩
    | true =>
      rw [hk] at d1
      cases hv : l[j].val.ok with
      | false =>
        rw [hv] at d2
        rw [entsOkB_false (entsOk_nov c hv)]
        have f1 := acall Tryz.func114 (d1) (by decide +kernel) (by decide +kernel)
        have f2 := acall Tryz.func115 (d2) (by decide +kernel) (by decide +kernel)
        refine wL ?_
        exact fin ⟨res_of rfl rfl rfl, trivial⟩
      | true =>
        rw [hv] at d2
        have f1 := acall Tryz.func114 (d1) (by decide +kernel) (by decide +kernel)
        have f2 := acall Tryz.func115 (d2) (by decide +kernel) (by decide +kernel)
        cases j with
        | zero =>
          refine wL ?_
          refine ⟨1, ⟨c, fun i hi hij => ?_⟩, by omega, ?_⟩
          · obtain rfl : i = 0 := by omega
            exact ⟨hk, hv, fun a ha => by omega⟩
          · (refine Go2.sub ⟨?_, ?_⟩ <;> repeat' (first | exact True.intro | rfl | apply And.intro))
        | succ m =>
          have f3 := acall Tryz.func109 (a_keycmp l[m].key l[m + 1].key) (by decide +kernel) (by decide +kernel)
          by_cases q : 0 ≤ keyCmp l[m].key l[m + 1].key
          · rw [entsOkB_false (entsOk_noc c q)]
            refine wL ?_
            exact fin ⟨res_of rfl rfl rfl, trivial⟩
          · refine wL ?_
            refine ⟨m + 1 + 1, ⟨c, fun i hi hij => ?_⟩, by omega, ?_⟩
            · by_cases e : i = m + 1
              · subst e
                exact ⟨hk, hv, fun a ha => by
                  have e : a = m := by omega
                  subst e; exact Int.not_le.1 q⟩
              · exact j2 i hi (by omega)
            · (refine Go2.sub ⟨?_, ?_⟩ <;> repeat' (first | exact True.intro | rfl | apply And.intro))
  · rw [entsOkB_true (fun i hi => j2 i hi (by omega))]
    refine wL ?_
    exact fin ⟨res_of rfl rfl rfl, trivial⟩
set_option maxRecDepth 100000 in
set_option maxHeartbeats 8000000 in
theorem a_ref07check (l : List Ent) (hl : l.length ≤ 100000000) : AFn Tryz.prog 72 [entsA l] (boolA (entsOkB refCmp l)) := by
  refine AFn_intro Tryz.func72 rfl Tryz.ntmps72 rfl (by simp) [_] rfl fun E hE => ?_
  have k' : (!true) = false := rfl
  have k'' : (!false) = true := rfl
  refine wL ?_
  refine AW_loopI (fun j : Nat => ⟨[(0, entsA l), (3, intA j)], []⟩) (fun j => j ≤ l.length ∧ ∀ i (hi : i < l.length), i < j → l[i].key.ok = true ∧ l[i].val.ok = true ∧ ∀ a (ha : a + 1 = i), refCmp (l[a]'(by omega)).key l[i].key < 0) (fun j => l.length - j) 0 ⟨Nat.zero_le _, fun i _ h => by omega⟩ (by (refine Go2.sub ⟨?_, ?_⟩ <;> repeat' (first | exact True.intro | rfl | apply And.intro))) (fun j hj => ?_)
  obtain ⟨j1, j2⟩ := hj
  by_cases c : j < l.length
  · have d1 := a_refkeycheck l[j].key
    have d2 := a_refvlcheck l[j].val
    cases hk : l[j].key.ok with
    | false =>
      rw [hk] at d1
      rw [entsOkB_false (entsOk_nok c hk)]
      have f1 := acall Tryz.func93 (d1) (by decide +kernel) (by decide +kernel)
      refine wL ?_
      exact fin ⟨res_of rfl rfl rfl, trivial⟩
    | true =>
      rw [hk] at d1
      cases hv : l[j].val.ok with
      | false =>
        rw [hv] at d2
        rw [entsOkB_false (entsOk_nov c hv)]
        have f1 := acall Tryz.func93 (d1) (by decide +kernel) (by decide +kernel)
        have f2 := acall Tryz.func95 (d2) (by decide +kernel) (by decide +kernel)
        refine wL ?_
        exact fin ⟨res_of rfl rfl rfl, trivial⟩
      | true =>
        rw [hv] at d2
        have f1 := acall Tryz.func93 (d1) (by decide +kernel) (by decide +kernel)
        have f2 := acall Tryz.func95 (d2) (by decide +kernel) (by decide +kernel)
        cases j with
        | zero =>
          refine wL ?_
          refine ⟨1, ⟨c, fun i hi hij => ?_⟩, by omega, ?_⟩
          · obtain rfl : i = 0 := by omega
            exact ⟨hk, hv, fun a ha => by omega⟩
          · (refine Go2.sub ⟨?_, ?_⟩ <;> repeat' (first | exact True.intro | rfl | apply And.intro))
        | succ m =>
          have f3 := acall Tryz.func31 (a_refcmp l[m].key l[m + 1].key) (by decide +kernel) (by decide +kernel)
          by_cases q : 0 ≤ refCmp l[m].key l[m + 1].key
          · rw [entsOkB_false (entsOk_noc c q)]
            refine wL ?_
            exact fin ⟨res_of rfl rfl rfl, trivial⟩
          · refine wL ?_
            refine ⟨m + 1 + 1, ⟨c, fun i hi hij => ?_⟩, by omega, ?_⟩
            · by_cases e : i = m + 1
              · subst e
                exact ⟨hk, hv, fun a ha => by
                  have e : a = m := by omega
                  subst e; exact Int.not_le.1 q⟩
              · exact j2 i hi (by omega)
            · (refine Go2.sub ⟨?_, ?_⟩ <;> repeat' (first | exact True.intro | rfl | apply And.intro))
  · rw [entsOkB_true (fun i hi => j2 i hi (by omega))]
    refine wL ?_
    exact fin ⟨res_of rfl rfl rfl, trivial⟩
end Go.Proofs.YtonjbnoeoececaaGreat

namespace Go.Proofs.YtonjbnoeoececaaGreat
open Go Go.RowKit
set_option linter.unusedVariables false
set_option linter.unusedSimpArgs false
set_option maxRecDepth 100000

/-- the kids by a number -/
def kidsL (v : Int) (n : Nat) : List Int := (List.range n).map fun i : Nat => 1 + v % 200 + 7 * (i : Int)
theorem kidsL_len (v : Int) (n : Nat) : (kidsL v n).length = n := by simp [kidsL]
theorem kidsL_succ (v : Int) (n : Nat) : kidsL v (n + 1) = kidsL v n ++ [1 + v % 200 + 7 * (n : Int)] := by simp [kidsL, List.range_succ]
def innerAt (v : Int) (P : List Key) : Nat → St
  | 0 => ⟨[(6, .ptr 6 0 []), (7, .ptr 7 0 []), (8, intA (1 + v % 200)), (9, intA ((0 : Nat) : Int))], [(6, .var (nodeA false nilA nilA nilA nilA)), (7, .var (nodeA false nilA nilA (keysA P) (msgsA [])))]⟩
  | j + 1 => ⟨[(6, .ptr 6 0 []), (7, .ptr 7 0 []), (8, intA (1 + v % 200)), (9, intA ((j + 1 : Nat) : Int))], [(6, .var (nodeA false nilA nilA nilA nilA)), (7, .var (nodeA false nilA (.sl (some 34) 1 ((kidsL v (j + 1)).map intA)) (keysA P) (msgsA []))), (34, .tail 3 1 (kidsL v (j + 1)).length)]⟩
attribute [local irreducible] OpOK AWops AW CondB Go2 AFn thenA inBlockA noGotoA orderOk wantedA
set_option maxRecDepth 100000 in
theorem a_msgs0 (most : Int) : AFn Tryz.prog 39 [intsA [], intA most] (msgsA []) := by
  refine AFn_intro Tryz.func39 rfl Tryz.ntmps39 rfl (by simp) [_] rfl fun E hE => ?_
  have h : ¬ ((0 : Nat) : Int) < (([] : List Int).length : Int) := by simp
  refine wO ?_
  refine AW_loopI (fun j : Nat => ⟨[(0, intsA []), (6, intA 0), (5, .v (.slice none 0 0))], []⟩) (fun j => True) (fun j => 0) 0 trivial (by (refine Go2.sub ⟨?_, ?_⟩ <;> repeat' (first | exact True.intro | rfl | apply And.intro))) (fun j hj => ?_)
  have h : ¬ (0 : Int) < (([] : List Int).length : Int) := by simp
  refine wO ?_
  exact fin ⟨res_nil rfl, trivial⟩
set_option maxRecDepth 100000 in
set_option maxHeartbeats 4000000 in
theorem a_inner0 (p : List Int) (v : Int) (hl : p.length ≤ 17592186044400) (hb : ∀ n ∈ p, -9223372036854775808 ≤ n ∧ n ≤ 9223372036854775807) (hv : -9223372036854775808 ≤ v ∧ v ≤ 9223372036854775807) :
    AFn Tryz.prog 13 [intsA p, intA v, intsA []] (nodeA false nilA (intsA (kidsL v ((pivK (16 :: p) 3).length + 1))) (keysA (pivK (16 :: p) 3)) (msgsA [])) := by
  refine AFn_intro Tryz.func13 rfl Tryz.ntmps13 rfl (by simp) [_] rfl fun E hE => ?_
  have hp := a_pivots (16 :: p) 3 (by simp; omega) (fun n hn => by rcases List.mem_cons.1 hn with rfl | hn; omega; exact hb n hn)
  have hle := pivK_le (16 :: p) 3 (by omega)
  generalize pivK (16 :: p) 3 = P at hp hle ⊢
  have c1 := acall Tryz.func38 (hp) (by decide +kernel) (by decide +kernel)
  have c2 := acall Tryz.func39 (a_msgs0 205) (by decide +kernel) (by decide +kernel)
  have c3 := acall Tryz.func25 (a_lplace v 200 (by omega) (by omega) hv) (by decide +kernel) (by decide +kernel)
  refine wO ?_
  refine AW_loopI (innerAt v P) (fun j => j ≤ P.length + 1) (fun j => P.length + 1 - j) 0 (Nat.zero_le _) (by unfold innerAt; (refine Go2.sub ⟨?_, ?_⟩ <;> repeat' (first | exact True.intro | rfl | apply And.intro))) (fun j hj => ?_)
  have hs := kidsL_succ v j
  have hkl := kidsL_len v j
  by_cases hlt : j ≤ P.length
  · cases j with
    | zero =>
      unfold innerAt
      refine wO ?_
      refine ⟨1, by omega, by omega, ?_⟩
      (refine Go2.sub ⟨?_, ?_⟩ <;> repeat' (first | exact True.intro | rfl | apply And.intro))
    | succ j =>
      unfold innerAt
      refine wO ?_
      refine Was 33 (AV.sl (some 33) 1 (List.map intA [1 + v % 200 + 7 * ((j + 1 : Nat) : Int)])) rfl ?_
      refine wO ?_
      refine ⟨j + 2, by omega, by omega, ?_⟩
      (refine Go2.sub ⟨?_, ?_⟩ <;> repeat' (first | exact True.intro | rfl | apply And.intro))
      all_goals (rw [hs]; rfl)
  · have : j = P.length + 1 := by omega
    subst this
    unfold innerAt
    refine wO ?_
    exact fin ⟨res_varw rfl rfl rfl rfl, trivial⟩
end Go.Proofs.YtonjbnoeoececaaGreat

namespace Go.Proofs.YtonjbnoeoececaaGreat
open Go Go.RowKit
set_option linter.unusedVariables false
set_option linter.unusedSimpArgs false
set_option maxRecDepth 100000

theorem putKey_ge (cmp : Key → Key → Int) (out : List Key) (x : Key) : out.length ≤ (putKey cmp out x).length := by
  have h := atOf_le cmp x out
  unfold putKey
  split
  · split
    · omega
    · simp; omega
  · omega
theorem kidsL_get (v : Int) (n i : Nat) (h : i < (kidsL v n).length) : (kidsL v n)[i] = 1 + v % 200 + 7 * (i : Int) := by
  simp [kidsL]
theorem kidsL_idx (v : Int) (n i : Nat) (h : i < n) : idxOf (kidsL v n) (1 + v % 200 + 7 * (i : Int)) = (i : Int) := by
  have : ∀ j, j ≤ i → idxFrom (1 + v % 200 + 7 * (i : Int)) j ((kidsL v n).drop j) = (i : Int) := by
    intro j hj
    induction h2 : i - j generalizing j with
    | zero =>
      have : j = i := by omega
      subst this
      exact idxFrom_hit _ _ _ (by rw [kidsL_len]; exact h) (kidsL_get v n j _)
    | succ k ih =>
      rw [idxFrom_miss _ _ _ (by rw [kidsL_len]; omega) (by rw [kidsL_get]; omega)]
      exact ih (j + 1) (by omega) (by omega)
  exact this 0 (Nat.zero_le _)
theorem kidsL_ok (v : Int) (n : Nat) (hn : n ≤ 4) : kidsFrom (kidsL v n) 0 (kidsL v n) = true := by
  have : ∀ k j, j + k = n → kidsFrom (kidsL v n) j ((kidsL v n).drop j) = true := by
    intro k
    induction k with
    | zero => intro j hj; exact kidsFrom_end _ _ _ (by rw [kidsL_len]; omega)
    | succ k ih =>
      intro j hj
      have hl : j < (kidsL v n).length := by rw [kidsL_len]; omega
      have h1 := Int.emod_nonneg v (show (200 : Int) ≠ 0 by omega)
      have h2 := Int.emod_lt_of_pos v (show (0 : Int) < 200 by omega)
      rw [kidsFrom_step _ _ _ hl, kidsL_get, kidsL_idx v n j (by omega), ih (j + 1) (by omega)]
      rw [show decide (1 ≤ 1 + v % 200 + 7 * (j : Int)) = true from decide_eq_true (by omega), show decide (1 + v % 200 + 7 * (j : Int) < 256) = true from decide_eq_true (by omega)]
      simp
  exact this n 0 (by omega)
theorem rise_ok {cs : List Key} (h : Rise cs) : risesBy keyCmp none cs = true := by
  have : ∀ (l : List Key) (p : Option Key), Rise l → (∀ q, p = some q → ∀ k ∈ l, q.rank < k.rank) → risesBy keyCmp p l = true := by
    intro l
    induction l with
    | nil => intro p _ _; rfl
    | cons k l ih =>
      intro p hr hp
      unfold risesBy
      rw [hr.1 k (List.mem_cons_self ..), ih (some k) hr.tail (fun q e => by injection e with e; subst e; exact (List.pairwise_cons.1 hr.2).1)]
      cases p with
      | none => rfl
      | some q =>
        have := hp q rfl k (List.mem_cons_self ..)
        have e : decide (keyCmp q k < 0) = true := decide_eq_true (by rw [keyCmp_rank, sgn_neg]; exact this)
        show (true && decide (keyCmp q k < 0) && true) = true
        rw [e]; rfl
  exact this cs none h (fun q e => by cases e)
theorem orderK_some (l : List Key) (x : Key) (hx : x.ok = true) : 1 ≤ (orderK (l ++ [x])).length := by
  unfold orderK
  rw [List.foldl_append]
  generalize l.foldl (putKey refCmp) [] = out
  show 1 ≤ (putKey refCmp out x).length
  unfold putKey
  rw [if_pos hx]
  split
  · rename_i h; omega
  · simp; omega
theorem pivK_some (l : List Int) (x most : Int) (hm : 1 ≤ most) : 1 ≤ (pivK (x :: l) most).length := by
  unfold pivK
  have : ∀ (l : List Int) (out : List Key), 1 ≤ out.length → 1 ≤ (l.foldl (pivStep most) out).length := by
    intro l
    induction l with
    | nil => intro out h; exact h
    | cons y l ih =>
      intro out h
      refine ih _ ?_
      unfold pivStep
      split
      · exact orderK_some _ _ (lawKey_ok y)
      · exact h
  show 1 ≤ ((l.take 19).foldl (pivStep most) (pivStep most [] x)).length
  refine this _ _ ?_
  have h1 := orderK_some [] (lawKey x) (lawKey_ok x)
  have h2 := orderK_len ([] ++ [lawKey x])
  unfold pivStep
  rw [if_pos (by simp at h2 ⊢; omega)]
  exact h1
theorem two_ok (v : Int) (p : List Int) : fanOkBy keyCmp (kidsL v ((pivK (16 :: p) 3).length + 1)) (pivK (16 :: p) 3) = true := by
  have h1 := pivK_some p 16 3 (by omega)
  have h2 := pivK_le (16 :: p) 3 (by omega)
  rw [fan_on _ _ keyCmp (by rw [kidsL_len]; omega) (by rw [kidsL_len]; omega) (by rw [kidsL_len]) (kidsL_ok v _ (by omega))]
  exact rise_ok (pivK_rise _ _)
attribute [local irreducible] OpOK AWops AW CondB Go2 AFn thenA inBlockA noGotoA orderOk wantedA
end Go.Proofs.YtonjbnoeoececaaGreat

namespace Go.Proofs.YtonjbnoeoececaaGreat
open Go Go.RowKit
set_option linter.unusedVariables false
set_option linter.unusedSimpArgs false
set_option maxRecDepth 100000

/-! ### a message more -/
theorem get_hit_ex {l : List Msg} (h : BSrt l) {k : Key} {x : Msg} (hg : bfGet k l = some x) : ∃ hi : bfAt k l < l.length, l[bfAt k l].key = k := by
  obtain ⟨hm, hk⟩ := (bfGet_iff h k x).1 hg
  obtain ⟨i, hi, he⟩ := List.mem_iff_getElem.1 hm
  have e := bat_hit h (k := k) hi (by rw [he, hk])
  subst e
  exact ⟨hi, by rw [he, hk]⟩
theorem add_len_hit {l : List Msg} (h : BSrt l) {m x : Msg} (hg : bfGet m.key l = some x) : (bfAdd l m).length = l.length := by
  obtain ⟨hi, he⟩ := get_hit_ex h hg
  rw [add_hit h m hi he]
  simp only [List.length_append, List.length_take, List.length_drop, List.length_singleton]
  omega
theorem add_len_no {l : List Msg} (h : Bf l) {m : Msg} (hm : m.ok = true) (hg : bfGet m.key l = none) : (bfAdd l m).length = l.length + 1 := by
  have hle := bfAt_le m.key l
  rw [add_no h m (Msg.spec hm).2.2.1 (fun hi e => by rw [bget_hit h.srt hi e] at hg; cases hg)]
  simp only [List.length_append, List.length_take, List.length_drop, List.length_singleton]
  omega
/-! ### batches -/
theorem batch_facts (l : List Msg) : batchN l ≤ l.length ∧ bSum (l.take (batchN l)) ≤ 96 ∧ min 2 l.length ≤ batchN l ∧ (batchN l < l.length → 96 < bSum (l.take (batchN l + 1))) := by
  obtain ⟨h1, h2, h3, h4⟩ := batchF_le l l.length 0 (Nat.zero_le _)
  change batchN l ≤ _ at h1
  have h3' := h3 (by omega)
  change batchN l < l.length → 96 < bSum (l.take (batchN l + 1)) at h3'
  change 0 = batchN l ∨ bSum (l.take (batchN l)) ≤ 96 at h4
  refine ⟨h1, ?_, ?_, h3'⟩
  · rcases h4 with h4 | h4
    · rw [← h4]; simp [bSum]
    · exact h4
  · by_cases c : batchN l < l.length
    · have h5 := h3' c
      have h6 := bSum_le (l.take (batchN l + 1))
      rw [List.length_take] at h6
      by_cases d : 2 ≤ batchN l
      · omega
      · omega
    · omega
theorem less_take {l : List Msg} (h : BSrt l) (n : Nat) : bfLess l (l.take n) = l.drop n := by
  have hs : BSrt (l.take n) := h.sublist (List.take_sublist n l)
  have hp := List.pairwise_iff_getElem.1 h
  have e : l = l.take n ++ l.drop n := (List.take_append_drop n l).symm
  unfold bfLess
  rw [show l.filter (goneP (l.take n)) = (l.take n ++ l.drop n).filter (goneP (l.take n)) from by rw [← e], List.filter_append]
  have h1 : (l.take n).filter (goneP (l.take n)) = [] := by
    rw [List.filter_eq_nil_iff]
    intro m hm
    unfold goneP
    rw [(bfGet_iff hs m.key m).2 ⟨hm, rfl⟩]
    simp
  have h2 : (l.drop n).filter (goneP (l.take n)) = l.drop n := by
    rw [List.filter_eq_self]
    intro m hm
    unfold goneP
    cases hg : bfGet m.key (l.take n) with
    | none => rfl
    | some x =>
      obtain ⟨h3, h4⟩ := (bfGet_iff hs m.key x).1 hg
      obtain ⟨i, hi, rfl⟩ := List.mem_iff_getElem.1 h3
      obtain ⟨j, hj, rfl⟩ := List.mem_iff_getElem.1 hm
      rw [List.length_take] at hi
      rw [List.length_drop] at hj
      have := h.lt (i := i) (j := n + j) (by omega) (by omega) (by omega)
      simp only [List.getElem_take, List.getElem_drop] at h4
      rw [h4] at this; omega
  rw [h1, h2]
  rfl
/-! ### what is left -/
theorem less_bf {l : List Msg} (h : Bf l) (g : List Msg) : Bf (bfLess l g) := ⟨fun m hm => h.ok m (List.mem_filter.1 hm).1, h.srt.sublist List.filter_sublist⟩
theorem less_len (l g : List Msg) : (bfLess l g).length ≤ l.length := List.length_filter_le _ _
theorem less_get {l : List Msg} (h : Bf l) (g : List Msg) (k : Key) : bfGet k (bfLess l g) = if (bfGet k g).isSome = true then none else bfGet k l := by
  apply Option.ext
  intro m
  rw [bfGet_iff (less_bf h g).srt]
  unfold bfLess
  rw [List.mem_filter]
  by_cases c : (bfGet k g).isSome = true
  · rw [if_pos c]
    constructor
    · rintro ⟨⟨_, h2⟩, rfl⟩
      unfold goneP at h2
      rw [c] at h2; cases h2
    · intro e; cases e
  · rw [if_neg c, bfGet_iff h.srt]
    constructor
    · rintro ⟨⟨h1, _⟩, h2⟩; exact ⟨h1, h2⟩
    · rintro ⟨h1, rfl⟩
      refine ⟨⟨h1, ?_⟩, rfl⟩
      unfold goneP
      simpa using c
theorem less_nil (l : List Msg) : bfLess l [] = l := by
  unfold bfLess
  rw [List.filter_eq_self]
  intro m _; rfl
theorem less_self {l : List Msg} (h : BSrt l) : bfLess l l = [] := by
  have := less_take h l.length
  rw [List.take_length, List.drop_length] at this
  exact this
/-! ### folds -/
theorem get_ball_srt {x : Key} (hx : x.ok = true) : ∀ {ms b : List Msg}, Bf b → Bf ms → bfGet x (bfAll b ms) = match bfGet x ms with
    | some m => some (newM m (bfGet x b))
    | none => bfGet x b
  | [], b, _, _ => rfl
  | m :: ms, b, h, hm => by
    have hm0 := hm.ok m (by simp)
    have ht : Bf ms := ⟨fun y hy => hm.ok y (List.mem_cons_of_mem _ hy), hm.srt.tail⟩
    have ih := get_ball_srt hx (bf_add h hm0) ht
    have e1 : bfAll b (m :: ms) = bfAll (bfAdd b m) ms := rfl
    rw [e1, ih, get_add h hm0 hx]
    by_cases c : x = m.key
    · have hg : bfGet x ms = none := by
        unfold bfGet
        rw [List.find?_eq_none]
        intro y hy
        have := hm.srt.head y hy
        simp only [decide_eq_true_eq]
        intro e
        rw [e, c] at this; omega
      have hg2 : bfGet x (m :: ms) = some m := by unfold bfGet; rw [List.find?_cons_of_pos]; simp [c]
      rw [hg, hg2, if_pos c, c]
    · have hg2 : bfGet x (m :: ms) = bfGet x ms := by unfold bfGet; rw [List.find?_cons_of_neg]; simp; exact fun e => c e.symm
      rw [hg2, if_neg c]
theorem ball_nil {l : List Msg} (h : Bf l) : bfAll [] l = l := by
  refine bf_ext (bf_all bf_nil h.ok) h fun k hk => ?_
  rw [get_ball_srt hk bf_nil h]
  cases bfGet k l <;> rfl
/-! ### parts -/
def partI (l : List Msg) (cuts : List Key) (i : Int) : List Msg := if 0 ≤ i ∧ i ≤ cuts.length then bfPart l cuts i.toNat else []
theorem part_len (l : List Msg) (cuts : List Key) (n : Nat) : (bfPart l cuts n).length ≤ l.length := by
  unfold bfPart
  rw [List.length_drop, List.length_take]; omega
theorem partI_len (l : List Msg) (cuts : List Key) (i : Int) : (partI l cuts i).length ≤ l.length := by
  unfold partI
  split
  · exact part_len _ _ _
  · simp
theorem a_bufpartI (l : List Msg) (cuts : List Key) (i : Int) (h : BSrt l) (hl : l.length ≤ 100000000) (hl2 : cuts.length ≤ 100000000) : AFn Tryz.prog 76 [msgsA l, keysA cuts, intA i] (msgsA (partI l cuts i)) := by
  unfold partI
  by_cases c : 0 ≤ i ∧ i ≤ cuts.length
  · rw [if_pos c]
    have := a_bufpart l cuts i.toNat h (by omega) hl hl2
    rwa [Int.toNat_of_nonneg c.1] at this
  · rw [if_neg c]
    exact a_bufpart_no l cuts i (by omega)
theorem a_ref06partI (l : List Msg) (cuts : List Key) (i : Int) (h : Bf l) (hr : Rise cuts) (hl : l.length ≤ 100000000) (hl2 : cuts.length ≤ 100000000) : AFn Tryz.prog 54 [msgsA l, keysA cuts, intA i] (msgsA (partI l cuts i)) := by
  unfold partI
  by_cases c : 0 ≤ i ∧ i ≤ cuts.length
  · rw [if_pos c]
    have := a_ref06part l cuts i.toNat h hr (by omega) hl hl2
    rwa [Int.toNat_of_nonneg c.1] at this
  · rw [if_neg c]
    exact a_ref06part_no l cuts i (by omega)
end Go.Proofs.YtonjbnoeoececaaGreat

namespace Go.Proofs.YtonjbnoeoececaaGreat
open Go Go.RowKit
set_option linter.unusedVariables false
set_option linter.unusedSimpArgs false
set_option maxRecDepth 100000

theorem bfAt_mono {a b : Key} (h : a.rank ≤ b.rank) (l : List Msg) : bfAt a l ≤ bfAt b l := by
  unfold bfAt
  apply List.countP_mono_left
  intro z hz hc
  simp only [decide_eq_true_eq] at hc ⊢
  omega
/-- how many of the buffer stand ahead of a part -/
def accP (cuts : List Key) (l : List Msg) (j : Nat) : Nat := if j ≤ cuts.length then pFrom cuts l j else l.length
theorem accP_zero (cuts : List Key) (l : List Msg) : accP cuts l 0 = 0 := by unfold accP; rw [if_pos (Nat.zero_le _)]; rfl
theorem accP_end (cuts : List Key) (l : List Msg) : accP cuts l (cuts.length + 1) = l.length := by unfold accP; rw [if_neg (by omega)]
theorem from_le_to {cuts : List Key} (hr : Rise cuts) (l : List Msg) (j : Nat) (hj : j ≤ cuts.length) : pFrom cuts l j ≤ pTo cuts l j := by
  cases j with
  | zero => exact Nat.zero_le _
  | succ m =>
    rw [pFrom_succ l hj]
    by_cases c : m + 1 < cuts.length
    · rw [pTo_in l c]
      exact bfAt_mono (Nat.le_of_lt (hr.at hj c (by omega))) l
    · rw [pTo_out l c]; exact bfAt_le _ _
theorem accP_step {cuts : List Key} (hr : Rise cuts) (l : List Msg) (j : Nat) (hj : j ≤ cuts.length) : l.take (accP cuts l j) ++ bfPart l cuts j = l.take (accP cuts l (j + 1)) := by
  have e1 : accP cuts l j = pFrom cuts l j := if_pos hj
  have e2 : accP cuts l (j + 1) = pTo cuts l j := by
    unfold accP
    by_cases c : j + 1 ≤ cuts.length
    · rw [if_pos c, pFrom_succ l c, pTo_in l c]
    · rw [if_neg c, pTo_out l (by omega)]
  have hle := from_le_to hr l j hj
  rw [e1, e2]
  unfold bfPart
  rw [show l.take (pFrom cuts l j) = (l.take (pTo cuts l j)).take (pFrom cuts l j) from by rw [List.take_take, Nat.min_eq_left hle], List.take_append_drop]
theorem part_mem {cuts : List Key} {l : List Msg} (h : BSrt l) {n : Nat} {m : Msg} (hm : m ∈ bfPart l cuts n) : m ∈ l ∧ keepLo cuts m n = true ∧ keepHi cuts m n = true := by
  rw [← part_keep h, List.mem_filter] at hm
  unfold keepP at hm
  rw [Bool.and_eq_true] at hm
  exact ⟨hm.1, hm.2.1, hm.2.2⟩
end Go.Proofs.YtonjbnoeoececaaGreat

namespace Go.Proofs.YtonjbnoeoececaaGreat
open Go Go.RowKit
set_option linter.unusedVariables false
set_option linter.unusedSimpArgs false
set_option maxRecDepth 100000

structure Nd where
  leaf : Bool
  es : List Ent
  ks : List Int
  ps : List Key
  ms : List Msg
deriving DecidableEq
def Nd.av (n : Nd) : AV := nodeA n.leaf (entsA n.es) (intsA n.ks) (keysA n.ps) (msgsA n.ms)
/-- what a leaf may be, what an inner node may be -/
noncomputable def leafOk (cmp : Key → Key → Int) (n : Nd) : Bool := entsOkB cmp n.es && decide (n.ks.length + n.ps.length + n.ms.length = 0)
noncomputable def innerOk (cmp : Key → Key → Int) (n : Nd) : Bool := decide (n.es.length = 0) && fanOkBy cmp n.ks n.ps && msgsOkB cmp n.ms
noncomputable def nodeOk (cmp : Key → Key → Int) (n : Nd) : Bool := if n.leaf = true then leafOk cmp n else innerOk cmp n
theorem nodeOk_ref (n : Nd) : nodeOk refCmp n = nodeOk keyCmp n := by
  unfold nodeOk leafOk innerOk
  rw [entsOkB_ref, fanOk_eq, msgsOkB_ref]
def ndBytes (n : Nd) : Int := if n.leaf = true then eSum n.es else bSum n.ms
noncomputable def nodeFits (n : Nd) : Bool := nodeOk keyCmp n && decide (ndBytes n ≤ if n.leaf = true then 248 else 205)
theorem nodeOk_ebd {n : Nd} (h : nodeOk keyCmp n = true) (hl : n.leaf = true) : EBd n.es := by
  unfold nodeOk at h
  rw [if_pos hl] at h
  unfold leafOk at h
  rw [Bool.and_eq_true] at h
  have h1 : EntsOk keyCmp n.es := by
    apply Classical.byContradiction
    intro hn
    rw [entsOkB_false hn] at h
    cases h.1
  intro e he
  obtain ⟨j, hj, rfl⟩ := List.getElem_of_mem he
  exact ⟨Key.n_le (h1 j hj).1, Vl.n_le (h1 j hj).2.1⟩
def ndHeavy (n : Nd) : Bool := !n.leaf && decide (205 ≤ 2 * bSum n.ms)
/-! ### weights -/
def ndWeights (n : Nd) : List Int := if n.leaf = true then [] else (List.range n.ks.length).map fun i => bSum (bfPart n.ms n.ps i)
def wtsAt (n : Nd) (j : Nat) : List Int := (List.range j).map fun i => bSum (bfPart n.ms n.ps i)
theorem wtsAt_succ (n : Nd) (j : Nat) : wtsAt n (j + 1) = wtsAt n j ++ [bSum (bfPart n.ms n.ps j)] := by simp [wtsAt, List.range_succ]
theorem wtsAt_len (n : Nd) (j : Nat) : (wtsAt n j).length = j := by simp [wtsAt]
/-- the place of the first that has most, and how much that is -/
def hvStep (i : Nat) (s : Int × Int) (x : Int) : Int × Int := if s.2 < x then ((i : Int), x) else s
def hvAt (w : List Int) : Nat → Int × Int
  | 0 => (-1, 0)
  | j + 1 => match w[j]? with
    | some x => hvStep j (hvAt w j) x
    | none => hvAt w j
def hvOf (w : List Int) : Int := (hvAt w w.length).1
theorem hvAt_succ (w : List Int) (j : Nat) (h : j < w.length) : hvAt w (j + 1) = hvStep j (hvAt w j) w[j] := by
  show (match w[j]? with | some x => hvStep j (hvAt w j) x | none => hvAt w j) = _
  rw [List.getElem?_eq_getElem h]
theorem hvAt_bd (w : List Int) (b : Int) (hb : ∀ x ∈ w, x ≤ b) (h0 : 0 ≤ b) : ∀ j, j ≤ w.length → 0 ≤ (hvAt w j).2 ∧ (hvAt w j).2 ≤ b ∧ -1 ≤ (hvAt w j).1 ∧ (hvAt w j).1 < (j : Int)
  | 0, _ => by simp [hvAt]; exact h0
  | j + 1, h => by
    have ih := hvAt_bd w b hb h0 j (by omega)
    rw [hvAt_succ w j (by omega)]
    unfold hvStep
    split
    · have := hb _ (List.getElem_mem (by omega : j < w.length))
      refine ⟨by omega, this, ?_, ?_⟩
      · show -1 ≤ (j : Int); omega
      · show (j : Int) < ((j + 1 : Nat) : Int); omega
    · exact ⟨ih.1, ih.2.1, ih.2.2.1, by omega⟩
/-- what the state tells: none above nothing, or the place of the first of the most -/
theorem hvAt_is (w : List Int) : ∀ j, j ≤ w.length → ((hvAt w j).1 = -1 ∧ (hvAt w j).2 = 0 ∧ ∀ i (h : i < w.length), i < j → w[i] ≤ 0) ∨ (∃ a, ∃ h : a < w.length, a < j ∧ (hvAt w j).1 = (a : Int) ∧ (hvAt w j).2 = w[a] ∧ 0 < w[a] ∧ (∀ i (h : i < w.length), i < j → w[i] ≤ w[a]) ∧ ∀ i (h : i < w.length), i < a → w[i] < w[a])
  | 0, _ => .inl ⟨rfl, rfl, fun i h k => absurd k (Nat.not_lt_zero _)⟩
  | j + 1, h => by
    have hj : j < w.length := h
    rw [hvAt_succ w j hj]
    unfold hvStep
    rcases hvAt_is w j (Nat.le_of_lt hj) with ⟨e1, e2, e3⟩ | ⟨a, ha, h1, e1, e2, e3, e4, e5⟩
    · rw [e2]
      split
      · rename_i c
        refine .inr ⟨j, hj, Nat.lt_succ_self _, rfl, rfl, c, fun i hi k => ?_, fun i hi k => ?_⟩
        · by_cases hij : i = j
          · subst hij; exact Int.le_refl _
          · have := e3 i hi (by omega); omega
        · have := e3 i hi k; omega
      · rename_i c
        refine .inl ⟨e1, e2, fun i hi k => ?_⟩
        by_cases hij : i = j
        · subst hij; omega
        · exact e3 i hi (by omega)
    · rw [e2]
      split
      · rename_i c
        refine .inr ⟨j, hj, Nat.lt_succ_self _, rfl, rfl, by show 0 < w[j]; omega, fun i hi k => ?_, fun i hi k => ?_⟩
        · by_cases hij : i = j
          · subst hij; exact Int.le_refl _
          · have := e4 i hi (by omega); omega
        · have := e4 i hi k; omega
      · rename_i c
        refine .inr ⟨a, ha, by omega, e1, e2, e3, fun i hi k => ?_, e5⟩
        by_cases hij : i = j
        · subst hij; omega
        · exact e4 i hi (by omega)
end Go.Proofs.YtonjbnoeoececaaGreat

namespace Go.Proofs.YtonjbnoeoececaaGreat
open Go Go.RowKit
set_option linter.unusedVariables false
set_option linter.unusedSimpArgs false
set_option maxRecDepth 100000

section
variable {E : Env} {nt : Nat} {ops : Array Oper} {T : Nat → Option AV} {H : Hp} {d : Option Nat} {ty : TypeId} {pos : String} {af : Array Edge} {gd : Option (Nat × Bool)}
theorem wrap_u8' (n : Int) : IntKind.u8.wrap n = n % 256 := by simp [IntKind.wrap, IntKind.bits, IntKind.signed]
/-- an int as a byte -/
theorem o_convb {s t : TypeId} {x : Operand} {n : Int} (hs : ∃ u, Tryz.prog.underlying s = some u) (ht : Tryz.prog.underlying t = some (.int .u8)) (hd : dOk nt d = true) (hx : evalO T x = some (.v (.int .i64 n))) : OpOK Tryz.prog E nt ops ⟨d, .convert s t x, ty, pos, af, gd⟩ T H [] ⟨byteA (BitVec.ofInt 8 n), []⟩ :=
  ok_conv_i hs ht hd hx (by rw [B8_def, BitVec.toNat_ofInt, wrap_u8']; omega)
theorem o_convu {s t : TypeId} {x : Operand} {n : Int} (hs : ∃ u, Tryz.prog.underlying s = some u) (ht : Tryz.prog.underlying t = some (.int .u64)) (hd : dOk nt d = true) (hx : evalO T x = some (.v (.int .i64 n))) : OpOK Tryz.prog E nt ops ⟨d, .convert s t x, ty, pos, af, gd⟩ T H [] ⟨u64A (BitVec.ofInt 64 n), []⟩ :=
  ok_conv_i hs ht hd hx (by rw [D64_def, BitVec.toNat_ofInt, wrap_u64']; omega)
theorem D64_mul (x y : BitVec 64) : IntKind.u64.wrap (D64 x * D64 y) = D64 (x * y) := by
  rw [wrap_u64', D64_def, D64_def, D64_def, BitVec.toNat_mul, ← Int.natCast_mul]
  omega
theorem o_mulu {t t' : TypeId} {x y : Operand} {a : BitVec 64} {c : Int} (hd : dOk nt d = true) (hx : evalO T x = some (.v (.int .u64 (D64 a)))) (hy : evalO T y = some (.v (.int .u64 c))) (h0 : 0 ≤ c ∧ c < 18446744073709551616) : OpOK Tryz.prog E nt ops ⟨d, .binOp .mul t x y t', ty, pos, af, gd⟩ T H [] ⟨u64A (a * BitVec.ofInt 64 c), []⟩ := by
  have := D64_ofInt c h0.1 h0.2
  rw [← this] at hy
  exact ok_mul hd hx hy (D64_mul a _)
/-- a row of bytes as a string -/
theorem bytes_row {U : Uns} {w : World} {B : Blk} {H : Hp} : ∀ {l : List (BitVec 8)} {c : List Value}, Rdu U w 1 (l.map byteA) B H c → c = (l.map fun b => Int.ofNat b.toNat).map (Value.int .u8)
  | [], c, h => by simpa [Rdu] using h
  | b :: l, c, h => by
    simp only [List.map_cons, Rdu] at h
    obtain ⟨c1, c2, rfl, h1, h2, h3⟩ := h
    rw [bytes_row h3]
    simp only [byteA, Rd] at h2
    rw [h2.2, B8_def]
    simp
theorem foldl_push (l : List (BitVec 8)) : (l.map fun b => Int.ofNat b.toNat).foldl (fun r n => r.push (UInt8.ofNat n.toNat)) ByteArray.empty = bytesOf l := by
  have hf : ∀ (l : List (BitVec 8)) (s : ByteArray), ((l.map fun b => Int.ofNat b.toNat).foldl (fun r n => r.push (UInt8.ofNat n.toNat)) s) = ⟨s.data ++ (l.map fun b => UInt8.ofNat b.toNat).toArray⟩ := by
    intro l
    induction l with
    | nil => intro s; simp
    | cons x l ih =>
      intro s
      rw [List.map_cons, List.foldl_cons, ih]
      congr 1
      simp [ByteArray.push]
  rw [hf, bytesOf_def]
  congr 1
  simp only [ByteArray.empty, ByteArray.emptyWithCapacity]
  have hm : (l.map fun b => UInt8.ofNat b.toNat) = l.map UInt8.ofBitVec := List.map_congr_left fun b _ => by
    apply UInt8.eq_of_toBitVec_eq
    simp
  rw [hm]
  apply Array.ext'
  rw [Array.toList_append]
  rfl
theorem o_convs {s t e : TypeId} {x : Operand} {tok : Option Nat} {l : List (BitVec 8)} (hs : Tryz.prog.underlying s = some (.slice e)) (he : Tryz.prog.underlying e = some (.int .u8)) (ht : Tryz.prog.underlying t = some .string) (hd : dOk nt d = true) (hx : evalO T x = some (.sl tok 1 (l.map byteA))) : OpOK Tryz.prog E nt ops ⟨d, .convert s t x, ty, pos, af, gd⟩ T H [] ⟨.v (.string (bytesOf l)), []⟩ :=
  ok_val hd fun B T' H' a w r hto hh => by
    have h := Rdv_one (by simp) (r.eval ((hto x (by simp [Op.operands])).trans hx)) rfl
    simp only [Rd] at h
    obtain ⟨A, cap, h1, h2, h3, h4, _⟩ := h
    injection h1 with h1
    refine ⟨.string (bytesOf l), ?_, by rw [Rdv_v]; exact ⟨rfl, rfl⟩⟩
    have hcv := run_convert_bytes_string (P := Tryz.prog) w s t e A (l.map byteA).length cap hs he ht
    simp only [execOp, h1, hcv, Sem.run_bind]
    by_cases h0 : 0 < (l.map byteA).length
    · obtain ⟨b, off, c, rfl, k1, _, k3⟩ := h4 h0
      have hc := bytes_row k3
      rw [Nat.mul_one] at k1
      have hl := run_loadCells_row (P := Tryz.prog) k1
      rw [hc] at hl
      rw [run_bytesToString w _ _ cap _ hl, foldl_push]
      rfl
    · have hl0 : l = [] := by cases l with
        | nil => rfl
        | cons a l => simp at h0
      subst hl0
      have hlc : (loadCells ⟨0, 0, none⟩ 0).run Tryz.prog w = .ok #[] w := by simp [loadCells, loadCellsFrom]
      cases A with
      | none => simp [Conv.bytesToString, bytesOf_def]; rfl
      | some a =>
        have := run_bytesToString (P := Tryz.prog) w a 0 cap [] (by simp [loadCells, loadCellsFrom])
        rw [List.length_map, List.length_nil, this]
        simp [bytesOf_def]
        rfl
/-- a made row, as the image of a list -/
theorem o_make {α : Type} {f : α → AV} {x0 : α} {t e : TypeId} {es bytes : Nat} {ea : Bool} {x y : Operand} {k k' : IntKind} {n : Nat} {g : Nat} (hd : dOk nt (some g) = true) (hs : tabT.ti t = some (.sl e (es + 1) bytes ea)) (hz : zeroT e = some (f x0)) (hx : evalO T x = some (.v (.int k (n : Nat)))) (hy : evalO T y = some (.v (.int k' (n : Nat)))) (hg : H g = none) (hb : bytes * n ≤ 140737488355328) (hn : n ≤ 9223372036854775807) :
    OpOK Tryz.prog E nt ops ⟨some g, .makeSlice t x y, ty, pos, af, gd⟩ T H [] ⟨.seg g 0 (es + 1) [] n n, [(g, .var (.arr (n * (es + 1)) (es + 1) ((List.replicate n x0).map f)))]⟩ := by
  rw [List.map_replicate]
  exact ok_make tabT hd hs (zeroT_ok hz) hx hy hg hb hn
theorem o_idxs {x ix : Operand} {t e : TypeId} {es bytes : Nat} {ea : Bool} {g off len cap : Nat} {p : List Nat} {k : IntKind} {i : Nat} (hd : dOk nt d = true) (hs : tabT.ti t = some (.sl e es bytes ea)) (hx : evalO T x = some (.seg g off es p len cap)) (hi : evalO T ix = some (.v (.int k (i : Nat)))) (hl : i < len) :
    OpOK Tryz.prog E nt ops ⟨d, .indexAddr t x ix, ty, pos, af, gd⟩ T H [] ⟨.ptr g (off + i * es) (p ++ [i]), []⟩ := ok_idx_seg tabT hd hs hx hi hl
/-- an element of a made row stored -/
theorem o_stm {α : Type} {f : α → AV} {xs : List α} {b : α} {x y : Operand} {t : TypeId} {g m es i : Nat} (hx : evalO T x = some (.ptr g (0 + i * es) ([] ++ [i]))) (hy : evalO T y = some (f b)) (hg : H g = some (.var (.arr m es (xs.map f)))) (hi : i < xs.length)
    (hs : tabT.sa t = some (isAggA (f b), es)) (hsz : sizeA (f b) = es) (hsa : ∀ a, sizeA (f a) = es) (hdt : dataA (f b) = true) (hnt : notTup (f b) = true) :
    OpOK Tryz.prog E nt ops ⟨none, .store t x y, ty, pos, af, gd⟩ T H [] ⟨.tup [], [(g, .var (.arr m es ((xs.set i b).map f)))]⟩ := by
  have hsub : subA ([] ++ [i]) (.arr m es (xs.map f)) = some (f xs[i]) := by simp [subA, hi]
  have hoff : offA ([] ++ [i]) (.arr m es (xs.map f)) = 0 + i * es := by simp [offA]
  have hset : setA (f b) ([] ++ [i]) (.arr m es (xs.map f)) = some (.arr m es ((xs.set i b).map f)) := by simp [setA, hi, hdt, List.map_set]
  exact ok_store tabT (d := none) rfl hx hy hg hsub hoff hset (by rw [hsz]; exact hs) (by rw [hsz, hsa]) hnt
end
end Go.Proofs.YtonjbnoeoececaaGreat

namespace Go.Proofs.YtonjbnoeoececaaGreat
open Go Go.RowKit
set_option linter.unusedVariables false
set_option linter.unusedSimpArgs false
set_option maxRecDepth 100000

def cutF (l : List Ent) : Nat → Nat → Nat
  | 0, a => a
  | f + 1, a => if a + 1 < l.length ∧ 2 * eSum (l.take a) < eSum l then cutF l f (a + 1) else a
/-- how many entries the first part has -/
def lfCut (l : List Ent) : Nat := cutF l l.length 1
theorem cutF_on {l : List Ent} {f a : Nat} (h1 : a + 1 < l.length) (h2 : 2 * eSum (l.take a) < eSum l) : cutF l (f + 1) a = cutF l f (a + 1) := by
  rw [cutF, if_pos ⟨h1, h2⟩]
theorem cutF_off {l : List Ent} {f a : Nat} (h : ¬ (a + 1 < l.length ∧ 2 * eSum (l.take a) < eSum l)) : cutF l (f + 1) a = a := by
  rw [cutF, if_neg h]
theorem cutF_spec (l : List Ent) (h2 : 2 ≤ l.length) : ∀ f a, 1 ≤ a → a < l.length → l.length ≤ f + a → 1 ≤ cutF l f a ∧ cutF l f a < l.length ∧ a ≤ cutF l f a ∧ (cutF l f a + 1 = l.length ∨ eSum l ≤ 2 * eSum (l.take (cutF l f a))) ∧ ∀ b, a ≤ b → b < cutF l f a → 2 * eSum (l.take b) < eSum l
  | 0, a, h1, h3, h4 => by omega
  | f + 1, a, h1, h3, h4 => by
    by_cases c : a + 1 < l.length ∧ 2 * eSum (l.take a) < eSum l
    · rw [cutF_on c.1 c.2]
      obtain ⟨q1, q2, q3, q4, q5⟩ := cutF_spec l h2 f (a + 1) (by omega) c.1 (by omega)
      refine ⟨q1, q2, by omega, q4, fun b hb hb' => ?_⟩
      by_cases e : b = a
      · subst e; exact c.2
      · exact q5 b (by omega) hb'
    · rw [cutF_off c]
      refine ⟨h1, h3, Nat.le_refl _, ?_, fun b hb hb' => by omega⟩
      by_cases e : a + 1 < l.length
      · exact .inr (Int.not_lt.1 fun h => c ⟨e, h⟩)
      · exact .inl (by omega)
theorem lfCut_spec {l : List Ent} (h2 : 2 ≤ l.length) : 1 ≤ lfCut l ∧ lfCut l < l.length ∧ (lfCut l + 1 = l.length ∨ eSum l ≤ 2 * eSum (l.take (lfCut l))) ∧ ∀ b, 1 ≤ b → b < lfCut l → 2 * eSum (l.take b) < eSum l := by
  obtain ⟨q1, q2, _, q4, q5⟩ := cutF_spec l h2 l.length 1 (Nat.le_refl _) (by omega) (by omega)
  exact ⟨q1, q2, q4, q5⟩
def keyAt (l : List Ent) (i : Nat) : Key := ((l[i]?).map (·.key)).getD Key.zero
theorem keyAt_eq {l : List Ent} {i : Nat} (h : i < l.length) : keyAt l i = l[i].key := by simp [keyAt, h]
theorem drop_zero_at {l : List Ent} {i : Nat} (h : i < l.length) (h' : 0 < (l.drop i).length) : (l.drop i)[0] = l[i] := by simp
section
variable {E : Env} {nt : Nat} {ops : Array Oper} {T : Nat → Option AV} {H : Hp} {d : Option Nat} {ty : TypeId} {pos : String} {af : Array Edge} {gd : Option (Nat × Bool)}
/-- a made row filled from a list that is no shorter -/
theorem o_copyall {α : Type} {f : α → AV} {x y : Operand} {t tx e : TypeId} {es bytes : Nat} {ea : Bool} {g len cap m : Nat} {tok : Option Nat} {xs ys : List α} (hd : dOk nt d = true) (hs : tabT.ti t = some (.sl e es bytes ea)) (hx : evalO T x = some (.seg g 0 es [] len cap)) (hy : evalO T y = some (.sl tok es (ys.map f)))
    (hg : H g = some (.var (.arr m es (xs.map f)))) (hl : xs.length = len) (hle : len ≤ ys.length) (hda : ∀ a, dataA (f a) = true) :
    OpOK Tryz.prog E nt ops ⟨d, .call { callee := .builtin .copy, args := #[x, y], argTypes := #[t, tx] }, ty, pos, af, gd⟩ T H [g] ⟨.v (.int .i64 (len : Nat)), [(g, .var (.arr m es ((ys.take len).map f)))]⟩ := by
  have hmin : min (ys.map f).length len = len := by rw [List.length_map]; omega
  have h := ok_copy tabT (E := E) (nt := nt) (ops := ops) (T := T) (H := H) (d := d) (ty := ty) (pos := pos) (af := af) (gd := gd) (x := x) (y := y) (t := t) (tx := tx) (g := g) (off := 0) (len := len) (cap := cap) (m := m) (p := []) (z := .arr m es (xs.map f)) (z' := .arr m es ((ys.take len).map f)) (src := .sl tok es (ys.map f)) (xs := xs.map f) (ys := ys.map f) hd hs hx hy srcn_sl hg rfl rfl (by rw [List.length_map]; omega) (by
    rw [hmin]
    simp only [setA]
    rw [List.drop_eq_nil_of_le (by rw [List.length_map]; omega), List.append_nil, ← List.map_take])
  rwa [hmin] at h
end
attribute [local irreducible] OpOK AWops AW CondB Go2 AFn thenA inBlockA noGotoA orderOk wantedA
set_option maxRecDepth 100000 in
set_option maxHeartbeats 8000000 in
theorem a_ref07split_no (l : List Ent) (h : l.length < 2) : AFn Tryz.prog 49 [entsA l] (.tup [entsA [], entsA [], Key.zero.av, boolA false]) := by
  refine AFn_intro Tryz.func49 rfl Tryz.ntmps49 rfl (by simp) [_, _, _, _] rfl fun E hE => ?_
  refine wL ?_
  exact fin ⟨res_nil rfl, res_nil rfl, res_var rfl rfl rfl rfl, res_of rfl rfl rfl, trivial⟩
set_option maxRecDepth 100000 in
set_option maxHeartbeats 8000000 in
theorem a_leafsplit_no (l : List Ent) (h : l.length < 2) : AFn Tryz.prog 83 [entsA l] (.tup [entsA [], entsA [], Key.zero.av, boolA false]) := by
  refine AFn_intro Tryz.func83 rfl Tryz.ntmps83 rfl (by simp) [_, _, _, _] rfl fun E hE => ?_
  refine wL ?_
  exact fin ⟨res_nil rfl, res_nil rfl, res_var rfl rfl rfl rfl, res_of rfl rfl rfl, trivial⟩
set_option maxRecDepth 100000 in
set_option maxHeartbeats 8000000 in
theorem a_ref07split (l : List Ent) (hb : EBd l) (h : 2 ≤ l.length) (hl : l.length ≤ 100000000) : AFn Tryz.prog 49 [entsA l] (.tup [entsA (l.take (lfCut l)), entsA (l.drop (lfCut l)), (keyAt l (lfCut l)).av, boolA true]) := by
  refine AFn_intro Tryz.func49 rfl Tryz.ntmps49 rfl (by simp) [_, _, _, _] rfl fun E hE => ?_
  have hsum := hb.sum
  have d1 := acall Tryz.func64 (a_ref07bytes l hb hl) (by decide +kernel) (by decide +kernel)
  refine wL ?_
  refine AW_loopI (fun j : Nat => ⟨[(0, entsA l), (4, .ptr 4 0 []), (6, intA (eSum l)), (7, intA j)], [(4, .var Key.zero.av)]⟩) (fun j => 1 ≤ j ∧ j < l.length ∧ cutF l (l.length - j + 1) j = lfCut l) (fun j => l.length - j) 1 ⟨Nat.le_refl _, by omega, by rw [show l.length - 1 + 1 = l.length by omega]; rfl⟩ (by (refine Go2.sub ⟨?_, ?_⟩ <;> repeat' (first | exact True.intro | rfl | apply And.intro))) (fun j hj => ?_)
  obtain ⟨j1, j2, j3⟩ := hj
  have ht := hb.take j
  have hts := ht.sum
  have htl : (l.take j).length ≤ l.length := by rw [List.length_take]; omega
  have d2 := acall Tryz.func64 (a_ref07bytes (l.take j) ht (by omega)) (by decide +kernel) (by decide +kernel)
  by_cases c : j + 1 < l.length
  · by_cases q : 2 * eSum (l.take j) < eSum l
    · rw [cutF_on c q] at j3
      refine wL ?_
      refine ⟨j + 1, ⟨by omega, c, by rw [← j3, show l.length - (j + 1) + 1 = l.length - j by omega]⟩, by omega, ?_⟩
      (refine Go2.sub ⟨?_, ?_⟩ <;> repeat' (first | exact True.intro | rfl | apply And.intro))
    · rw [cutF_off (fun h => q h.2)] at j3
      rw [← j3, keyAt_eq j2]
      have hd : 0 < (l.drop j).length := by rw [List.length_drop]; omega
      have h0 : (l.drop j)[0].key = l[j].key := by rw [drop_zero_at j2 hd]
      rw [← h0]
      refine wL ?_
      exact fin ⟨res_sl rfl, res_sl rfl, res_var rfl rfl rfl rfl, res_of rfl rfl rfl, trivial⟩
  · rw [cutF_off (fun h => c h.1)] at j3
    rw [← j3, keyAt_eq j2]
    have hd : 0 < (l.drop j).length := by rw [List.length_drop]; omega
    have h0 : (l.drop j)[0].key = l[j].key := by rw [drop_zero_at j2 hd]
    rw [← h0]
    refine wL ?_
    exact fin ⟨res_sl rfl, res_sl rfl, res_var rfl rfl rfl rfl, res_of rfl rfl rfl, trivial⟩
set_option maxRecDepth 100000 in
set_option maxHeartbeats 8000000 in
theorem a_leafsplit (l : List Ent) (hb : EBd l) (h : 2 ≤ l.length) (hl : l.length ≤ 100000000) : AFn Tryz.prog 83 [entsA l] (.tup [entsA (l.take (lfCut l)), entsA (l.drop (lfCut l)), (keyAt l (lfCut l)).av, boolA true]) := by
  refine AFn_intro Tryz.func83 rfl Tryz.ntmps83 rfl (by simp) [_, _, _, _] rfl fun E hE => ?_
  have hsum := hb.sum
  have d1 := acall Tryz.func100 (a_leafbytes l hb hl) (by decide +kernel) (by decide +kernel)
  refine wL ?_
  refine AW_loopI (fun j : Nat => ⟨[(0, entsA l), (4, .ptr 4 0 []), (6, intA j), (7, intA (eSum (l.take j))), (8, intA (eSum l))], [(4, .var Key.zero.av)]⟩) (fun j => j < l.length ∧ (j = 0 ∨ cutF l (l.length - j + 1) j = lfCut l)) (fun j => l.length - j) 0 ⟨by omega, .inl rfl⟩ (by (refine Go2.sub ⟨?_, ?_⟩ <;> repeat' (first | exact True.intro | rfl | apply And.intro))) (fun j hj => ?_)
  obtain ⟨j2, j3⟩ := hj
  have ht := hb.take j
  have hts := ht.sum
  rw [List.length_take] at hts
  have hs := eSum_snoc l j j2
  have he := hb l[j] (List.getElem_mem j2)
  have hz : l[j].size = 2 + l[j].key.n + l[j].val.n := rfl
  have hj0 : j = 0 → eSum (l.take j) = 0 := fun e => by subst e; rfl
  have d2 := acall Tryz.func101 (a_leafsize l[j] he) (by decide +kernel) (by decide +kernel)
  by_cases c : j + 1 < l.length
  · by_cases q : 2 * eSum (l.take j) < eSum l
    · refine wL ?_
      refine ⟨j + 1, ⟨c, .inr ?_⟩, by omega, ?_⟩
      · rcases j3 with j3 | j3
        · subst j3
          show cutF l (l.length - 1 + 1) 1 = lfCut l
          rw [show l.length - 1 + 1 = l.length by omega]; rfl
        · rw [cutF_on c q] at j3
          rw [← j3, show l.length - (j + 1) + 1 = l.length - j by omega]
      · rw [hs]
        (refine Go2.sub ⟨?_, ?_⟩ <;> repeat' (first | exact True.intro | rfl | apply And.intro))
    · have j3 := j3.resolve_left (fun e => by have := hj0 e; omega)
      rw [cutF_off (fun h => q h.2)] at j3
      rw [← j3, keyAt_eq j2]
      refine wL ?_
      (apply Wb; (focus (exact o_make (f := Ent.av) (x0 := Ent.zero) (n := j) rfl rfl rfl rfl rfl rfl (by omega) (by omega))); (focus (first | exact want_n | exact want_g rfl (by with_reducible rfl))))
      refine wL ?_
      refine Wri 41 ((l.length - j : Nat) : Int) rfl (by omega) ?_
      (apply Wb; (focus (exact o_make (f := Ent.av) (x0 := Ent.zero) (n := l.length - j) rfl rfl rfl rfl rfl rfl (by omega) (by omega))); (focus (first | exact want_n | exact want_g rfl (by with_reducible rfl))))
      refine wL ?_
      (apply Wb; (focus (exact o_copyall (f := Ent.av) rfl rfl rfl rfl rfl (by simp) (by omega) (fun _ => rfl))); (focus (first | exact want_n | exact want_g rfl (by with_reducible rfl))))
      refine wL ?_
      (apply Wb; (focus (exact o_copyall (f := Ent.av) rfl rfl rfl rfl rfl (by simp) (by simp) (fun _ => rfl))); (focus (first | exact want_n | exact want_g rfl (by with_reducible rfl))))
      refine Wend _ ?_
      refine thenA_n ?_
      refine AW_go (Go2.froz hE 37 rfl) ?_
      refine AW_go (Go2.froz hE 42 rfl) ?_
      refine AW_go (Go2.seg 2 37 rfl rfl rfl rfl (by simp; omega)) ?_
      refine AW_go (Go2.seg 3 42 rfl rfl rfl rfl (by simp)) ?_
      refine AW_go (Go2.as 2 (entsA (l.take j)) ((show _ = some (AV.sl none 26 (((l.take j).map Ent.av).take j)) from rfl).trans (by rw [List.take_of_length_le (by rw [List.length_map, List.length_take]; omega)]; rfl))) ?_
      refine AW_go (Go2.as 3 (entsA (l.drop j)) ((show _ = some (AV.sl none 26 ((((l.drop j).take (l.length - j)).map Ent.av).take (l.length - j))) from rfl).trans (by rw [List.take_of_length_le (by rw [List.length_map, List.length_take]; omega), List.take_of_length_le (by rw [List.length_drop]; omega)]; rfl))) ?_
      refine wL ?_
      exact fin ⟨res_sl rfl, res_sl rfl, res_var rfl rfl rfl rfl, res_of rfl rfl rfl, trivial⟩
  · have j3 := j3.resolve_left (fun e => by omega)
    rw [cutF_off (fun h => c h.1)] at j3
    rw [← j3, keyAt_eq j2]
    refine wL ?_
    (apply Wb; (focus (exact o_make (f := Ent.av) (x0 := Ent.zero) (n := j) rfl rfl rfl rfl rfl rfl (by omega) (by omega))); (focus (first | exact want_n | exact want_g rfl (by with_reducible rfl))))
    refine wL ?_
    refine Wri 41 ((l.length - j : Nat) : Int) rfl (by omega) ?_
    (apply Wb; (focus (exact o_make (f := Ent.av) (x0 := Ent.zero) (n := l.length - j) rfl rfl rfl rfl rfl rfl (by omega) (by omega))); (focus (first | exact want_n | exact want_g rfl (by with_reducible rfl))))
    refine wL ?_
    (apply Wb; (focus (exact o_copyall (f := Ent.av) rfl rfl rfl rfl rfl (by simp) (by omega) (fun _ => rfl))); (focus (first | exact want_n | exact want_g rfl (by with_reducible rfl))))
    refine wL ?_
    (apply Wb; (focus (exact o_copyall (f := Ent.av) rfl rfl rfl rfl rfl (by simp) (by simp) (fun _ => rfl))); (focus (first | exact want_n | exact want_g rfl (by with_reducible rfl))))
    refine Wend _ ?_
    refine thenA_n ?_
    refine AW_go (Go2.froz hE 37 rfl) ?_
    refine AW_go (Go2.froz hE 42 rfl) ?_
    refine AW_go (Go2.seg 2 37 rfl rfl rfl rfl (by simp; omega)) ?_
    refine AW_go (Go2.seg 3 42 rfl rfl rfl rfl (by simp)) ?_
    refine AW_go (Go2.as 2 (entsA (l.take j)) ((show _ = some (AV.sl none 26 (((l.take j).map Ent.av).take j)) from rfl).trans (by rw [List.take_of_length_le (by rw [List.length_map, List.length_take]; omega)]; rfl))) ?_
    refine AW_go (Go2.as 3 (entsA (l.drop j)) ((show _ = some (AV.sl none 26 ((((l.drop j).take (l.length - j)).map Ent.av).take (l.length - j))) from rfl).trans (by rw [List.take_of_length_le (by rw [List.length_map, List.length_take]; omega), List.take_of_length_le (by rw [List.length_drop]; omega)]; rfl))) ?_
    refine wL ?_
    exact fin ⟨res_sl rfl, res_sl rfl, res_var rfl rfl rfl rfl, res_of rfl rfl rfl, trivial⟩
end Go.Proofs.YtonjbnoeoececaaGreat

namespace Go.Proofs.YtonjbnoeoececaaGreat
open Go Go.RowKit
set_option linter.unusedVariables false
set_option linter.unusedSimpArgs false
set_option maxRecDepth 100000

def apO (b : Option Msg) (o : Option Vl) : Option Vl := match b with
  | some m => ap m o
  | none => o
theorem ap_compose {y m : Msg} (hy : y.ok = true) (hm : m.ok = true) (hk : y.key = m.key) (o : Option Vl) : ap (composeM y m) o = ap m (ap y o) := by
  have h1 := Msg.spec hy
  have h2 := Msg.spec hm
  unfold composeM
  by_cases c : m.kind = 3
  · rw [if_neg (by simp [c, hk])]
    by_cases c1 : y.kind = 1
    · rw [if_pos c1]; simp [ap, c, c1]
    · rw [if_neg c1]
      by_cases c2 : y.kind = 2
      · rw [if_pos c2]; simp [ap, c, c1, c2]
      · rw [if_neg c2]
        cases o with
        | none => simp [ap, c, c1, c2, vplus_from]
        | some v => simp [ap, c, c1, c2, vplus_plus]
  · rw [if_pos (.inl c)]
    unfold ap
    by_cases c1 : m.kind = 1
    · rw [if_pos c1, if_pos c1]
    · have c2 : m.kind = 2 := by omega
      rw [if_neg c1, if_neg c1, if_pos c2, if_pos c2]
theorem ap_newM {m : Msg} (hm : m.ok = true) {b : Option Msg} (hb : ∀ y, b = some y → y.ok = true ∧ y.key = m.key) (o : Option Vl) : ap (newM m b) o = ap m (apO b o) := by
  cases b with
  | none => rfl
  | some y => exact ap_compose (hb y rfl).1 hm (hb y rfl).2 o
/-- what messages make of one key's value, one by one -/
def runV (x : Key) (ms : List Msg) (o : Option Vl) : Option Vl := ms.foldl (fun o m => if x = m.key then ap m o else o) o
theorem get_all {x : Key} (hx : x.ok = true) : ∀ {ms : List Msg} {l : List Ent}, Lf l → (∀ m ∈ ms, m.ok = true) → lfGet x (lfAll l ms) = runV x ms (lfGet x l)
  | [], l, _, _ => rfl
  | m :: ms, l, h, hm => by
    have hm0 := hm m (by simp)
    have ih := get_all hx (ms := ms) (lf_put h hm0) (fun y hy => hm y (List.mem_cons_of_mem _ hy))
    have e1 : lfAll l (m :: ms) = lfAll (lfPut l m) ms := rfl
    rw [e1, ih, get_put h hm0 hx]
    unfold runV
    rw [List.foldl_cons]
    by_cases c : x = m.key
    · rw [if_pos c, if_pos c, c]
    · rw [if_neg c, if_neg c]
theorem get_ball {x : Key} (hx : x.ok = true) (o : Option Vl) : ∀ {ms b : List Msg}, Bf b → (∀ m ∈ ms, m.ok = true) → apO (bfGet x (bfAll b ms)) o = runV x ms (apO (bfGet x b) o)
  | [], b, _, _ => rfl
  | m :: ms, b, h, hm => by
    have hm0 := hm m (by simp)
    have ih := get_ball hx o (ms := ms) (bf_add h hm0) (fun y hy => hm y (List.mem_cons_of_mem _ hy))
    have e1 : bfAll b (m :: ms) = bfAll (bfAdd b m) ms := rfl
    rw [e1, ih, get_add h hm0 hx]
    unfold runV
    rw [List.foldl_cons]
    by_cases c : x = m.key
    · rw [if_pos c, if_pos c]
      congr 1
      show ap (newM m (bfGet m.key b)) o = _
      rw [ap_newM hm0 (fun y hy => ⟨bget_ok h _ y hy, ((bfGet_iff h.srt _ y).1 hy).2⟩), c]
    · rw [if_neg c, if_neg c]
theorem runV_bf {x : Key} (o : Option Vl) : ∀ {b : List Msg}, BSrt b → runV x b o = apO (bfGet x b) o
  | [], _ => rfl
  | m :: b, h => by
    have e1 : runV x (m :: b) o = runV x b (if x = m.key then ap m o else o) := rfl
    rw [e1, runV_bf _ h.tail]
    by_cases c : x = m.key
    · have hg : bfGet x b = none := by
        unfold bfGet
        rw [List.find?_eq_none]
        intro y hy
        have := h.head y hy
        simp only [decide_eq_true_eq]
        intro e
        rw [e, c] at this; omega
      have hg2 : bfGet x (m :: b) = some m := by unfold bfGet; rw [List.find?_cons_of_pos]; simp [c]
      rw [if_pos c, hg, hg2]
      rfl
    · have hg2 : bfGet x (m :: b) = bfGet x b := by unfold bfGet; rw [List.find?_cons_of_neg]; simp; exact fun e => c e.symm
      rw [if_neg c, hg2]
/-- composed in a buffer they do the same -/
theorem all_ball {l : List Ent} (h : Lf l) {ms : List Msg} (hm : ∀ m ∈ ms, m.ok = true) : lfAll l (bfAll [] ms) = lfAll l ms := by
  have hb := bf_all bf_nil hm
  refine lf_ext (lf_all h hb.ok) (lf_all h hm) fun x hx => ?_
  rw [get_all hx h hb.ok, get_all hx h hm, runV_bf _ hb.srt, get_ball hx _ bf_nil hm]
  rfl
theorem all_cut (l : List Ent) (ms : List Msg) (k : Nat) : lfAll (lfAll l (ms.take k)) (ms.drop k) = lfAll l ms := by
  unfold lfAll
  rw [← List.foldl_append, List.take_append_drop]
end Go.Proofs.YtonjbnoeoececaaGreat

namespace Go.Proofs.YtonjbnoeoececaaGreat
open Go Go.RowKit
set_option linter.unusedVariables false
set_option linter.unusedSimpArgs false
set_option maxRecDepth 100000

theorem all_two {x : List Ent} (hx : Lf x) {l m : List Msg} (hl : Bf l) (hm : ∀ y ∈ m, y.ok = true) : lfAll x (bfAll l m) = lfAll (lfAll x l) m := by
  have hb := bf_all hl hm
  refine lf_ext (lf_all hx hb.ok) (lf_all (lf_all hx hl.ok) hm) fun k hk => ?_
  rw [get_all hk hx hb.ok, get_all hk (lf_all hx hl.ok) hm, get_all hk hx hl.ok, runV_bf _ hb.srt, get_ball hk _ hl hm, runV_bf _ hl.srt]
end Go.Proofs.YtonjbnoeoececaaGreat

namespace Go.Proofs.YtonjbnoeoececaaGreat
open Go Go.RowKit
set_option linter.unusedVariables false
set_option linter.unusedSimpArgs false
set_option maxRecDepth 100000

structure Nd.Gd (n : Nd) : Prop where
  lf : Lf n.es
  bf : Bf n.ms
  rs : Rise n.ps
  es : n.es.length ≤ 100000
  ks : n.ks.length ≤ 100000
  ps : n.ps.length ≤ 100000
  ms : n.ms.length ≤ 100000
def ndZ : Nd := ⟨false, [], [], [], []⟩
def takeN (n : Nd) (l : List Msg) : Nd := if n.leaf = true then ⟨n.leaf, lfAll n.es l, n.ks, n.ps, n.ms⟩ else ⟨n.leaf, n.es, n.ks, n.ps, bfAll n.ms l⟩
noncomputable def insN (n : Nd) (m : Msg) : Nd × Bool := if nodeFits (takeN n [m]) = true then (takeN n [m], true) else (n, false)
def goesN (p : Nd) (i : Int) : List Msg := (partI p.ms p.ps i).take (batchN (partI p.ms p.ps i))
def lessN (p : Nd) (g : List Msg) : Nd := ⟨p.leaf, p.es, p.ks, p.ps, bfLess p.ms g⟩
def placeOk (p : Nd) (i : Int) : Prop := p.leaf = false ∧ 0 ≤ i ∧ i < p.ks.length
instance (p : Nd) (i : Int) : Decidable (placeOk p i) := by unfold placeOk; infer_instance
noncomputable def pushN (p c : Nd) (i : Int) : Nd × Nd × Bool :=
  if placeOk p i then (if (goesN p i).length = 0 ∨ nodeFits (takeN c (goesN p i)) = false then (p, c, false) else (lessN p (goesN p i), takeN c (goesN p i), true)) else (p, c, false)
def idOk (n : Int) : Prop := 1 ≤ n ∧ n < 256
instance (n : Int) : Decidable (idOk n) := by unfold idOk; infer_instance
def partsOk (p : Nd) (i id : Int) : Prop := p.leaf = false ∧ p.ks.length < 4 ∧ 0 ≤ i ∧ i < p.ks.length ∧ idOk id ∧ idxOf p.ks id < 0
instance (p : Nd) (i id : Int) : Decidable (partsOk p i id) := by unfold partsOk; infer_instance
def leafOf (es : List Ent) : Nd := ⟨true, es, [], [], []⟩
/-- a leaf in two -/
def halvL (es : List Ent) : Nd × Nd × Key × Bool := if 2 ≤ es.length then (leafOf (es.take (lfCut es)), leafOf (es.drop (lfCut es)), keyAt es (lfCut es), true) else (ndZ, ndZ, Key.zero, false)
/-- an inner node in two -/
def halvI (n : Nd) : Nd × Nd × Key × Bool :=
  let h := fanHal n.ks n.ps
  if h.2.2.2.2.2 = true then (⟨false, [], h.1, h.2.1, bfPart n.ms [h.2.2.1] 0⟩, ⟨false, [], h.2.2.2.1, h.2.2.2.2.1, bfPart n.ms [h.2.2.1] 1⟩, h.2.2.1, true) else (ndZ, ndZ, Key.zero, false)
def halvN (n : Nd) : Nd × Nd × Key × Bool := if n.leaf = true then halvL n.es else halvI n
def withKid (p : Nd) (i : Int) (x : Key) (id : Int) : Nd := ⟨p.leaf, p.es, (fanIns p.ks p.ps i x id).1, (fanIns p.ks p.ps i x id).2, p.ms⟩
def splitL (p c : Nd) (i id : Int) : Nd × Nd × Nd × Bool :=
  if partsOk p i id ∧ c.leaf = true then
    (let h := halvL (takeN c (goesN p i)).es
     if h.2.2.2 = true then (withKid (lessN p (goesN p i)) i h.2.2.1 id, h.1, h.2.1, true) else (p, c, ndZ, false))
  else (p, c, ndZ, false)
def splitI (p c : Nd) (i id : Int) : Nd × Nd × Nd × Bool :=
  if partsOk p i id ∧ c.leaf = false then
    (let h := halvI c
     if h.2.2.2 = true then (withKid p i h.2.2.1 id, h.1, h.2.1, true) else (p, c, ndZ, false))
  else (p, c, ndZ, false)
def splitR (r : Nd) (a b : Int) : Nd × Nd × Nd × Bool :=
  if a ≠ b ∧ idOk a ∧ idOk b then
    (let h := halvN r
     if h.2.2.2 = true then (⟨false, [], [a, b], [h.2.2.1], []⟩, h.1, h.2.1, true) else (r, ndZ, ndZ, false))
  else (r, ndZ, ndZ, false)
def tup4 (r : Nd × Nd × Nd × Bool) : AV := .tup [r.1.av, r.2.1.av, r.2.2.1.av, boolA r.2.2.2]
def tupH (r : Nd × Nd × Key × Bool) : AV := .tup [r.1.av, r.2.1.av, r.2.2.1.av, boolA r.2.2.2]
/-! ### good nodes stay so -/
theorem Nd.Gd.sm {n : Nd} (h : n.Gd) : n.es.length ≤ 100000000 ∧ n.ks.length ≤ 100000000 ∧ n.ps.length ≤ 100000000 ∧ n.ms.length ≤ 100000000 :=
  ⟨by have := h.es; omega, by have := h.ks; omega, by have := h.ps; omega, by have := h.ms; omega⟩
theorem rise_nil : Rise [] := ⟨fun e he => absurd he List.not_mem_nil, List.Pairwise.nil⟩
theorem ndZ_gd : ndZ.Gd := ⟨lf_nil, bf_nil, rise_nil, Nat.zero_le _, Nat.zero_le _, Nat.zero_le _, Nat.zero_le _⟩
theorem Bf.sub {l l' : List Msg} (h : Bf l) (s : List.Sublist l' l) : Bf l' := ⟨fun m hm => h.ok m (s.subset hm), h.srt.sublist s⟩
theorem partI_sub (l : List Msg) (cuts : List Key) (i : Int) : List.Sublist (partI l cuts i) l := by
  unfold partI
  split
  · unfold bfPart
    exact (List.drop_sublist _ _).trans (List.take_sublist _ _)
  · exact List.nil_sublist _
theorem goes_sub (p : Nd) (i : Int) : List.Sublist (goesN p i) p.ms := (List.take_sublist _ _).trans (partI_sub _ _ _)
theorem goes_bf {p : Nd} (h : p.Gd) (i : Int) : Bf (goesN p i) := h.bf.sub (goes_sub p i)
theorem goes_len (p : Nd) (i : Int) : (goesN p i).length ≤ p.ms.length := (goes_sub p i).length_le
end Go.Proofs.YtonjbnoeoececaaGreat

namespace Go.Proofs.YtonjbnoeoececaaGreat
open Go Go.RowKit
set_option linter.unusedVariables false
set_option linter.unusedSimpArgs false
set_option maxRecDepth 100000

attribute [local irreducible] OpOK AWops AW CondB Go2 AFn thenA inBlockA noGotoA orderOk wantedA
set_option maxRecDepth 100000 in
set_option maxHeartbeats 4000000 in
theorem a_sameEnts (a b : List Ent) (h1 : a.length ≤ 1000000000) : AFn Tryz.prog 68 [entsA a, entsA b] (boolA (decide (a = b))) := by
  refine AFn_intro Tryz.func68 rfl Tryz.ntmps68 rfl (by simp) [_] rfl fun E hE => ?_
  by_cases hl : a.length = b.length
  · refine wL ?_
    refine AW_loopI (fun j : Nat => ⟨[(0, entsA a), (1, entsA b), (5, intA j)], []⟩) (fun j => j ≤ a.length ∧ a.take j = b.take j) (fun j => a.length - j) 0 ⟨Nat.zero_le _, rfl⟩ (by (refine Go2.sub ⟨?_, ?_⟩ <;> repeat' (first | exact True.intro | rfl | apply And.intro))) (fun j hj => ?_)
    obtain ⟨hj, hJ⟩ := hj
    by_cases hlt : j < a.length
    · have hlt' : j < b.length := by omega
      by_cases h : a[j] = b[j]
      · have h' : ¬ a[j] ≠ b[j] := fun k => k h
        refine wL ?_
        refine ⟨j + 1, ⟨hlt, same_step a b j hlt hlt' h hJ⟩, by omega, ?_⟩
        (refine Go2.sub ⟨?_, ?_⟩ <;> repeat' (first | exact True.intro | rfl | apply And.intro))
      · have h' : a[j] ≠ b[j] := h
        rw [same_no a b j hlt hlt' h]
        refine wL ?_
        exact fin ⟨res_of rfl rfl rfl, trivial⟩
    · have : j = a.length := by omega
      subst this
      rw [List.take_length, hl, List.take_length] at hJ
      rw [decide_eq_true hJ]
      refine wL ?_
      exact fin ⟨res_of rfl rfl rfl, trivial⟩
  · rw [show decide (a = b) = false from decide_eq_false fun k => hl (by rw [k])]
    refine wL ?_
    exact fin ⟨res_of rfl rfl rfl, trivial⟩
set_option maxRecDepth 100000 in
set_option maxHeartbeats 4000000 in
theorem a_sameMsgs (a b : List Msg) (h1 : a.length ≤ 1000000000) : AFn Tryz.prog 71 [msgsA a, msgsA b] (boolA (decide (a = b))) := by
  refine AFn_intro Tryz.func71 rfl Tryz.ntmps71 rfl (by simp) [_] rfl fun E hE => ?_
  by_cases hl : a.length = b.length
  · refine wL ?_
    refine AW_loopI (fun j : Nat => ⟨[(0, msgsA a), (1, msgsA b), (5, intA j)], []⟩) (fun j => j ≤ a.length ∧ a.take j = b.take j) (fun j => a.length - j) 0 ⟨Nat.zero_le _, rfl⟩ (by (refine Go2.sub ⟨?_, ?_⟩ <;> repeat' (first | exact True.intro | rfl | apply And.intro))) (fun j hj => ?_)
    obtain ⟨hj, hJ⟩ := hj
    by_cases hlt : j < a.length
    · have hlt' : j < b.length := by omega
      by_cases h : a[j] = b[j]
      · have h' : ¬ a[j] ≠ b[j] := fun k => k h
        refine wL ?_
        refine ⟨j + 1, ⟨hlt, same_step a b j hlt hlt' h hJ⟩, by omega, ?_⟩
        (refine Go2.sub ⟨?_, ?_⟩ <;> repeat' (first | exact True.intro | rfl | apply And.intro))
      · have h' : a[j] ≠ b[j] := h
        rw [same_no a b j hlt hlt' h]
        refine wL ?_
        exact fin ⟨res_of rfl rfl rfl, trivial⟩
    · have : j = a.length := by omega
      subst this
      rw [List.take_length, hl, List.take_length] at hJ
      rw [decide_eq_true hJ]
      refine wL ?_
      exact fin ⟨res_of rfl rfl rfl, trivial⟩
  · rw [show decide (a = b) = false from decide_eq_false fun k => hl (by rw [k])]
    refine wL ?_
    exact fin ⟨res_of rfl rfl rfl, trivial⟩
end Go.Proofs.YtonjbnoeoececaaGreat
