/-
  AfnTwo: kids and pivots by numbers, and that they are a node's. 
-/
import Derived.Test.YtmmifkobcmabpaaAfnInner
namespace Go.Proofs.Ytmmifkobcmabpaa
open Go Go.RowKit
set_option linter.unusedVariables false
set_option linter.unusedSimpArgs false

theorem putKey_ge (cmp : Key → Key → Int) (out : List Key) (x : Key) : out.length ≤ (putKey cmp out x).length := by
  have h := atOf_le cmp x out
  unfold putKey
  split
  · split
    · omega
    · simp; omega
  · omega
theorem kidsL_get (v : Int) (n i : Nat) (h : i < (kidsL v n).length) : (kidsL v n)[i] = 1 + v % 200 + 7 * (i : Int) := by
  simp [kidsL]
theorem kidsL_idx (v : Int) (n i : Nat) (h : i < n) : idxOf (kidsL v n) (1 + v % 200 + 7 * (i : Int)) = (i : Int) := by
  have : ∀ j, j ≤ i → idxFrom (1 + v % 200 + 7 * (i : Int)) j ((kidsL v n).drop j) = (i : Int) := by
    intro j hj
    induction h2 : i - j generalizing j with
    | zero =>
      have : j = i := by omega
      subst this
      exact idxFrom_hit _ _ _ (by rw [kidsL_len]; exact h) (kidsL_get v n j _)
    | succ k ih =>
      rw [idxFrom_miss _ _ _ (by rw [kidsL_len]; omega) (by rw [kidsL_get]; omega)]
      exact ih (j + 1) (by omega) (by omega)
  exact this 0 (Nat.zero_le _)
theorem kidsL_ok (v : Int) (n : Nat) (hn : n ≤ 4) : kidsFrom (kidsL v n) 0 (kidsL v n) = true := by
  have : ∀ k j, j + k = n → kidsFrom (kidsL v n) j ((kidsL v n).drop j) = true := by
    intro k
    induction k with
    | zero => intro j hj; exact kidsFrom_end _ _ _ (by rw [kidsL_len]; omega)
    | succ k ih =>
      intro j hj
      have hl : j < (kidsL v n).length := by rw [kidsL_len]; omega
      have h1 := Int.emod_nonneg v (show (200 : Int) ≠ 0 by omega)
      have h2 := Int.emod_lt_of_pos v (show (0 : Int) < 200 by omega)
      rw [kidsFrom_step _ _ _ hl, kidsL_get, kidsL_idx v n j (by omega), ih (j + 1) (by omega)]
      rw [show decide (1 ≤ 1 + v % 200 + 7 * (j : Int)) = true from decide_eq_true (by omega), show decide (1 + v % 200 + 7 * (j : Int) < 256) = true from decide_eq_true (by omega)]
      simp
  exact this n 0 (by omega)
theorem rise_ok {cs : List Key} (h : Rise cs) : risesBy keyCmp none cs = true := by
  have : ∀ (l : List Key) (p : Option Key), Rise l → (∀ q, p = some q → ∀ k ∈ l, q.rank < k.rank) → risesBy keyCmp p l = true := by
    intro l
    induction l with
    | nil => intro p _ _; rfl
    | cons k l ih =>
      intro p hr hp
      unfold risesBy
      rw [hr.1 k (List.mem_cons_self ..), ih (some k) hr.tail (fun q e => by injection e with e; subst e; exact (List.pairwise_cons.1 hr.2).1)]
      cases p with
      | none => rfl
      | some q =>
        have := hp q rfl k (List.mem_cons_self ..)
        have e : decide (keyCmp q k < 0) = true := decide_eq_true (by rw [keyCmp_rank, sgn_neg]; exact this)
        show (true && decide (keyCmp q k < 0) && true) = true
        rw [e]; rfl
  exact this cs none h (fun q e => by cases e)
theorem orderK_some (l : List Key) (x : Key) (hx : x.ok = true) : 1 ≤ (orderK (l ++ [x])).length := by
  unfold orderK
  rw [List.foldl_append]
  generalize l.foldl (putKey refCmp) [] = out
  show 1 ≤ (putKey refCmp out x).length
  unfold putKey
  rw [if_pos hx]
  split
  · rename_i h; omega
  · simp; omega
theorem pivK_some (l : List Int) (x most : Int) (hm : 1 ≤ most) : 1 ≤ (pivK (x :: l) most).length := by
  unfold pivK
  have : ∀ (l : List Int) (out : List Key), 1 ≤ out.length → 1 ≤ (l.foldl (pivStep most) out).length := by
    intro l
    induction l with
    | nil => intro out h; exact h
    | cons y l ih =>
      intro out h
      refine ih _ ?_
      unfold pivStep
      split
      · exact orderK_some _ _ (lawKey_ok y)
      · exact h
  show 1 ≤ ((l.take 19).foldl (pivStep most) (pivStep most [] x)).length
  refine this _ _ ?_
  have h1 := orderK_some [] (lawKey x) (lawKey_ok x)
  have h2 := orderK_len ([] ++ [lawKey x])
  unfold pivStep
  rw [if_pos (by simp at h2 ⊢; omega)]
  exact h1
theorem two_ok (v : Int) (p : List Int) : fanOkBy keyCmp (kidsL v ((pivK (16 :: p) 3).length + 1)) (pivK (16 :: p) 3) = true := by
  have h1 := pivK_some p 16 3 (by omega)
  have h2 := pivK_le (16 :: p) 3 (by omega)
  rw [fan_on _ _ keyCmp (by rw [kidsL_len]; omega) (by rw [kidsL_len]; omega) (by rw [kidsL_len]) (kidsL_ok v _ (by omega))]
  exact rise_ok (pivK_rise _ _)
attribute [local irreducible] OpOK AWops AW CondB Go2 AFn thenA inBlockA noGotoA orderOk wantedA
set_option maxRecDepth 100000 in
theorem a_two (p : List Int) (v : Int) (hl : p.length ≤ 17592186044400) (hb : ∀ n ∈ p, -9223372036854775808 ≤ n ∧ n ≤ 9223372036854775807) (hv : -9223372036854775808 ≤ v ∧ v ≤ 9223372036854775807) :
    AFn Try.prog 23 [intsA p, intA v] (.tup [intsA (kidsL v ((pivK (16 :: p) 3).length + 1)), keysA (pivK (16 :: p) 3)]) := by
  refine AFn_intro Try.func23 rfl Try.ntmps23 rfl (by simp) [_, _] rfl fun E hE => ?_
  have ci := a_inner0 p v hl hb hv
  generalize pivK (16 :: p) 3 = P at ci ⊢
  repeat (first | (first | refine Wend _ ?_ | refine AW_seq ?_ | refine AW_reg ?_ | refine AW_drw mixed ?_ | refine AW_block ?_ | refine AW_scope ?_ | refine thenA_n ?_ | refine blockA_n ?_ | refine blockA_h ?_ | refine scopeA_n ?_ | refine thenA_r ?_ | refine blockA_r ?_ | refine scopeA_r ?_ | refine thenA_e ?_ | refine scopeA_e ?_ | refine blockA_e rfl ?_ | refine AW_exit ?_ | refine AW_ret ?_ | refine AW_skip ?_ | refine AW_c rfl ?_ | with_reducible refine cb_t ?_ | with_reducible refine cb_f ?_ | with_reducible refine cb_yes (by first | assumption | omega) ?_ | with_reducible refine cb_no (by first | assumption | omega) ?_ | refine And.intro (by decide +kernel) ?_) | (first | (apply Wv; (focus (first | exact step_ok rfl rfl | exact o_idx rfl rfl rfl rfl (by first | assumption | omega | decide) | exact o_idx3 rfl rfl rfl rfl (by first | assumption | omega | decide) | exact o_idx2 rfl rfl rfl rfl rfl (by first | assumption | omega | decide) | exact o_idxr rfl rfl rfl rfl rfl rfl | exact o_lenm rfl rfl rfl | exact o_len rfl rfl rfl | exact o_len0 rfl rfl rfl | exact o_lens rfl rfl rfl | exact o_lent rfl rfl | exact o_add1 rfl rfl rfl (by omega) | exact o_addn rfl rfl rfl (by omega) | exact o_add rfl rfl rfl (by omega) | exact o_sub1 rfl rfl rfl (by omega) | exact o_sub rfl rfl rfl (by omega) | exact o_mul rfl rfl rfl (by omega) | exact o_rem rfl rfl rfl (by omega) | exact ok_rem rfl rfl rfl (by decide) rfl | exact o_eqKey rfl rfl rfl | exact o_neKey rfl rfl rfl | exact o_acall rfl rfl rfl rfl (by assumption) | exact o_minn rfl rfl rfl | exact o_cutl rfl rfl rfl rfl (by omega) | exact o_cuth rfl rfl rfl rfl (by omega) | exact o_cutl3 rfl rfl rfl rfl (by omega) | exact o_cuth3 rfl rfl rfl rfl (by omega) | exact o_cutl2 rfl rfl rfl rfl rfl (by omega) | exact o_cuth2 rfl rfl rfl rfl rfl (by omega) | exact o_cutlh2 rfl rfl rfl rfl rfl rfl rfl (by omega) (by omega) | exact o_bld zero_Key rfl rfl rfl rfl rfl rfl rfl | exact o_bld zero_Node rfl rfl rfl rfl rfl rfl rfl)); (focus (first | exact want_n | exact want_g rfl (by with_reducible rfl)))) | (apply Wb; (focus (first | exact o_box rfl rfl rfl rfl | exact o_app rfl rfl rfl rfl rfl (by first | exact o_many rfl | exact o_one _ _ rfl) (by first | omega | (simp; omega) | simp) (by first | omega | (simp; omega) | simp) | exact o_appn rfl rfl rfl rfl rfl (by first | exact o_many rfl | exact o_one _ _ rfl) (by first | omega | (simp; omega) | simp) (by first | omega | (simp; omega) | simp) | exact o_app1 rfl rfl rfl rfl rfl (by first | exact o_many rfl | exact o_one _ _ rfl) (by exact rfl) (by first | omega | (simp; omega) | simp) (by first | omega | (simp; omega) | simp) | exact o_app0 rfl rfl rfl rfl rfl (by first | exact o_many rfl | exact o_one _ _ rfl) (by first | omega | (simp; omega) | simp) (by first | omega | (simp; omega) | simp) | exact o_bsl0 rfl rfl rfl | exact o_bsll zero_slints rfl rfl rfl rfl rfl rfl rfl rfl | exact o_bsll zero_slkeys rfl rfl rfl rfl rfl rfl rfl rfl | exact o_bsll zero_int rfl rfl rfl rfl rfl rfl rfl rfl | exact o_bsll zero_Key rfl rfl rfl rfl rfl rfl rfl rfl | exact o_alloc zero_Key rfl rfl | exact o_alloc zero_Node rfl rfl)); (focus (first | exact want_n | exact want_g rfl (by with_reducible rfl)))) | (apply Ws; (focus (exact ok_store tabT (d := none) rfl rfl rfl rfl rfl rfl rfl rfl rfl rfl)); (focus (first | exact want_n | exact want_g rfl (by with_reducible rfl)))) | (refine Wskip (by first | exact want_f rfl (by with_reducible exact b_nt) | exact want_f rfl (by with_reducible exact b_nf) | exact want_t rfl) rfl ?_) | refine Wgt rfl rfl (by first | assumption | omega | exact rfl) ?_ | refine Wgf rfl rfl (by first | assumption | omega | exact rfl) ?_ | (refine Wgb rfl rfl (by assumption) ?_) | (refine cb_is _ (by assumption) ?_)))
  (apply Wv; (focus (apply o_call Try.func57 (ci) rfl (by decide +kernel) rfl rfl; (any_goals (intro _; (repeat (first | exact wkl0 | refine wkd rfl ?_ | refine wkt ?_ | refine wkn ?_)); done)); (any_goals rfl))); (focus (first | exact want_n | exact want_g rfl (by with_reducible rfl))))
  repeat (first | (first | refine Wend _ ?_ | refine AW_seq ?_ | refine AW_reg ?_ | refine AW_drw mixed ?_ | refine AW_block ?_ | refine AW_scope ?_ | refine thenA_n ?_ | refine blockA_n ?_ | refine blockA_h ?_ | refine scopeA_n ?_ | refine thenA_r ?_ | refine blockA_r ?_ | refine scopeA_r ?_ | refine thenA_e ?_ | refine scopeA_e ?_ | refine blockA_e rfl ?_ | refine AW_exit ?_ | refine AW_ret ?_ | refine AW_skip ?_ | refine AW_c rfl ?_ | with_reducible refine cb_t ?_ | with_reducible refine cb_f ?_ | with_reducible refine cb_yes (by first | assumption | omega) ?_ | with_reducible refine cb_no (by first | assumption | omega) ?_ | refine And.intro (by decide +kernel) ?_) | (first | (apply Wv; (focus (first | exact step_ok rfl rfl | exact o_idx rfl rfl rfl rfl (by first | assumption | omega | decide) | exact o_idx3 rfl rfl rfl rfl (by first | assumption | omega | decide) | exact o_idx2 rfl rfl rfl rfl rfl (by first | assumption | omega | decide) | exact o_idxr rfl rfl rfl rfl rfl rfl | exact o_lenm rfl rfl rfl | exact o_len rfl rfl rfl | exact o_len0 rfl rfl rfl | exact o_lens rfl rfl rfl | exact o_lent rfl rfl | exact o_add1 rfl rfl rfl (by omega) | exact o_addn rfl rfl rfl (by omega) | exact o_add rfl rfl rfl (by omega) | exact o_sub1 rfl rfl rfl (by omega) | exact o_sub rfl rfl rfl (by omega) | exact o_mul rfl rfl rfl (by omega) | exact o_rem rfl rfl rfl (by omega) | exact ok_rem rfl rfl rfl (by decide) rfl | exact o_eqKey rfl rfl rfl | exact o_neKey rfl rfl rfl | exact o_acall rfl rfl rfl rfl (by assumption) | exact o_minn rfl rfl rfl | exact o_cutl rfl rfl rfl rfl (by omega) | exact o_cuth rfl rfl rfl rfl (by omega) | exact o_cutl3 rfl rfl rfl rfl (by omega) | exact o_cuth3 rfl rfl rfl rfl (by omega) | exact o_cutl2 rfl rfl rfl rfl rfl (by omega) | exact o_cuth2 rfl rfl rfl rfl rfl (by omega) | exact o_cutlh2 rfl rfl rfl rfl rfl rfl rfl (by omega) (by omega) | exact o_bld zero_Key rfl rfl rfl rfl rfl rfl rfl | exact o_bld zero_Node rfl rfl rfl rfl rfl rfl rfl)); (focus (first | exact want_n | exact want_g rfl (by with_reducible rfl)))) | (apply Wb; (focus (first | exact o_box rfl rfl rfl rfl | exact o_app rfl rfl rfl rfl rfl (by first | exact o_many rfl | exact o_one _ _ rfl) (by first | omega | (simp; omega) | simp) (by first | omega | (simp; omega) | simp) | exact o_appn rfl rfl rfl rfl rfl (by first | exact o_many rfl | exact o_one _ _ rfl) (by first | omega | (simp; omega) | simp) (by first | omega | (simp; omega) | simp) | exact o_app1 rfl rfl rfl rfl rfl (by first | exact o_many rfl | exact o_one _ _ rfl) (by exact rfl) (by first | omega | (simp; omega) | simp) (by first | omega | (simp; omega) | simp) | exact o_app0 rfl rfl rfl rfl rfl (by first | exact o_many rfl | exact o_one _ _ rfl) (by first | omega | (simp; omega) | simp) (by first | omega | (simp; omega) | simp) | exact o_bsl0 rfl rfl rfl | exact o_bsll zero_slints rfl rfl rfl rfl rfl rfl rfl rfl | exact o_bsll zero_slkeys rfl rfl rfl rfl rfl rfl rfl rfl | exact o_bsll zero_int rfl rfl rfl rfl rfl rfl rfl rfl | exact o_bsll zero_Key rfl rfl rfl rfl rfl rfl rfl rfl | exact o_alloc zero_Key rfl rfl | exact o_alloc zero_Node rfl rfl)); (focus (first | exact want_n | exact want_g rfl (by with_reducible rfl)))) | (apply Ws; (focus (exact ok_store tabT (d := none) rfl rfl rfl rfl rfl rfl rfl rfl rfl rfl)); (focus (first | exact want_n | exact want_g rfl (by with_reducible rfl)))) | (refine Wskip (by first | exact want_f rfl (by with_reducible exact b_nt) | exact want_f rfl (by with_reducible exact b_nf) | exact want_t rfl) rfl ?_) | refine Wgt rfl rfl (by first | assumption | omega | exact rfl) ?_ | refine Wgf rfl rfl (by first | assumption | omega | exact rfl) ?_ | (refine Wgb rfl rfl (by assumption) ?_) | (refine cb_is _ (by assumption) ?_)))
  exact fin ⟨res_sl rfl, res_sl rfl, trivial⟩
end Go.Proofs.Ytmmifkobcmabpaa
