/-
  M7: several texts as one: BufAwake, BufLaws, LeafPure, LeafBuf, BufFold, LeafWalks, LeafPut, LeafPut2, LeafMore, LawEnts, LawBuf5. No condition beyond those that each theorem states.
-/
import Derived.Test.YtigbkhjcboecjaaM6
namespace Go.Proofs.Ytigbkhjcboecjaa
open Go Go.RowKit
set_option linter.unusedVariables false
set_option linter.unusedSimpArgs false

theorem D64_n (n : Nat) (h : n < 18446744073709551616) : D64 (BitVec.ofNat 64 n) = (n : Int) := by
  rw [D64_def, BitVec.toNat_ofNat, Nat.mod_eq_of_lt h]
theorem av_three (k : Key) : (⟨3, 1#64, k, Vl.zero, 3#64⟩ : Msg).av = .agg 29 [intA 3, .v (.int .u64 1), k.av, Vl.zero.av, .v (.int .u64 3)] := by
  unfold Msg.av u64A
  rw [show D64 1#64 = 1 from D64_n 1 (by omega), show D64 3#64 = 3 from D64_n 3 (by omega)]
theorem av_two (k : Key) : (⟨3, 2#64, k, Vl.zero, 2#64⟩ : Msg).av = .agg 29 [intA 3, .v (.int .u64 2), k.av, Vl.zero.av, .v (.int .u64 2)] := by
  unfold Msg.av u64A
  rw [show D64 2#64 = 2 from D64_n 2 (by omega)]
theorem add_ok {k : Key} (hk : k.ok = true) (s n : BitVec 64) : (⟨3, s, k, Vl.zero, n⟩ : Msg).ok = true := Msg.mkOk ⟨by omega, by omega⟩ hk (by rw [if_neg (by omega)]) (fun h => absurd rfl h)
theorem one_bf {m : Msg} (hm : m.ok = true) : Bf [m] := ⟨(fun e h => by simp at h; subst h; exact hm), List.pairwise_singleton ..⟩
theorem one_at (k : Key) (m : Msg) (hk : m.key = k) : bfAt k [m] = 0 := by
  unfold bfAt; subst hk; simp
theorem one_add {a b : Msg} (ha : a.ok = true) (hk : a.key = b.key) : bfAdd [a] b = [composeM a b] := by
  have h0 := one_at b.key a hk
  rw [add_hit (one_bf ha).srt b (by rw [h0]; simp) (by simp only [h0]; exact hk)]
  simp [h0]
theorem nil_add (m : Msg) : bfAdd [] m = [m] := rfl
theorem one_less {m : Msg} (hm : m.ok = true) : bfLess [m] [m] = [] := by
  have : goneP [m] m = false := by
    unfold goneP
    rw [bget_hit (k := m.key) (one_bf hm).srt (i := 0) (by simp) rfl]
    rfl
  unfold bfLess
  rw [List.filter_cons_of_neg (by rw [this]; simp)]
  rfl
theorem one_batch {m : Msg} : batchN [m] = 1 := by
  have h := m.size_le
  have hs : bSum ([m].take (0 + 1)) = m.size := by simp [bSum]
  unfold batchN
  show batchF [m] (0 + 1) 0 = 1
  rw [batchF_on ⟨by simp, by rw [hs]; omega⟩]
  rfl
attribute [local irreducible] OpOK AWops AW CondB Go2 AFn thenA inBlockA noGotoA orderOk wantedA
set_option maxRecDepth 100000 in
set_option maxHeartbeats 8000000 in
theorem a_law06same (l : List Msg) (hl : l.length ≤ 100000000) : AFn Try.prog 20 [msgsA l, msgsA l] (boolA true) := by
  refine AFn_intro Try.func20 rfl Try.ntmps20 rfl (by simp) [_] rfl fun E hE => ?_
  have d1 := acall Try.func47 (a_ref06same l hl) (by decide +kernel) (by decide +kernel)
  repeat (first | (first | refine Wend _ ?_ | refine AW_seq ?_ | refine AW_reg ?_ | refine AW_drw mixed ?_ | refine AW_block ?_ | refine AW_scope ?_ | refine thenA_n ?_ | refine blockA_n ?_ | refine blockA_h ?_ | refine scopeA_n ?_ | refine thenA_r ?_ | refine blockA_r ?_ | refine scopeA_r ?_ | refine thenA_e ?_ | refine scopeA_e ?_ | refine blockA_e rfl ?_ | refine AW_exit ?_ | refine AW_ret ?_ | refine AW_skip ?_ | refine AW_c rfl ?_ | with_reducible refine cb_t ?_ | with_reducible refine cb_f ?_ | with_reducible refine cb_yes (by first | assumption | omega) ?_ | with_reducible refine cb_no (by first | assumption | omega) ?_ | refine And.intro (by decide +kernel) ?_) | (first | (apply Wv; (focus (first | exact step_ok rfl rfl | exact o_idx rfl rfl rfl rfl (by first | assumption | omega | decide) | exact o_idx3 rfl rfl rfl rfl (by first | assumption | omega | decide) | exact o_idx2 rfl rfl rfl rfl rfl (by first | assumption | omega | decide) | exact o_idxr rfl rfl rfl rfl rfl rfl | exact o_lenm rfl rfl rfl | exact o_len rfl rfl rfl | exact o_len0 rfl rfl rfl | exact o_lens rfl rfl rfl | exact o_lent rfl rfl | exact o_add1 rfl rfl rfl (by omega) | exact o_addn rfl rfl rfl (by omega) | exact o_add rfl rfl rfl (by omega) | exact o_sub1 rfl rfl rfl (by omega) | exact o_sub rfl rfl rfl (by omega) | exact o_mul rfl rfl rfl (by omega) | exact o_rem rfl rfl rfl (by omega) | exact ok_rem rfl rfl rfl (by decide) rfl | exact o_eqKey rfl rfl rfl | exact o_neKey rfl rfl rfl | exact o_eqVl rfl rfl rfl | exact o_neVl rfl rfl rfl | exact o_eqEnt rfl rfl rfl | exact o_neEnt rfl rfl rfl | exact o_eqMsg rfl rfl rfl | exact o_neMsg rfl rfl rfl | exact o_acall rfl rfl rfl rfl (by assumption) | exact o_minn rfl rfl rfl | exact o_cutl rfl rfl rfl rfl (by omega) | exact o_cuth rfl rfl rfl rfl (by omega) | exact o_cutl3 rfl rfl rfl rfl (by omega) | exact o_cuth3 rfl rfl rfl rfl (by omega) | exact o_cutl2 rfl rfl rfl rfl rfl (by omega) | exact o_cuth2 rfl rfl rfl rfl rfl (by omega) | exact o_cutlh2 rfl rfl rfl rfl rfl rfl rfl (by omega) (by omega) | exact e_bld rfl rfl rfl | exact e_bldk rfl rfl | exact z_bld0 rfl rfl rfl rfl rfl | exact z_bld rfl rfl rfl rfl rfl rfl rfl | exact o_addu rfl rfl rfl | exact z_blda rfl rfl rfl rfl rfl rfl rfl rfl rfl | exact o_idxa rfl rfl rfl rfl rfl rfl | exact o_idxra rfl rfl rfl rfl rfl rfl rfl | exact o_quo2 rfl rfl rfl (by omega) | exact o_quo rfl rfl rfl (by omega))); (focus (first | exact want_n | exact want_g rfl (by with_reducible rfl)))) | (apply Wb; (focus (first | exact o_box rfl rfl rfl rfl | exact o_app rfl rfl rfl rfl rfl (by first | exact o_many rfl | exact o_one _ _ rfl) (by first | omega | (simp; omega) | simp) (by first | omega | (simp; omega) | simp) | exact o_appn rfl rfl rfl rfl rfl (by first | exact o_many rfl | exact o_one _ _ rfl) (by first | omega | (simp; omega) | simp) (by first | omega | (simp; omega) | simp) | exact o_app1 rfl rfl rfl rfl rfl (by first | exact o_many rfl | exact o_one _ _ rfl) (by exact rfl) (by first | omega | (simp; omega) | simp) (by first | omega | (simp; omega) | simp) | exact o_app0 rfl rfl rfl rfl rfl (by first | exact o_many rfl | exact o_one _ _ rfl) (by first | omega | (simp; omega) | simp) (by first | omega | (simp; omega) | simp) | exact o_bsl0 rfl rfl rfl | exact z_bsll rfl rfl rfl rfl rfl rfl rfl rfl rfl | exact z_alloc rfl rfl rfl)); (focus (first | exact want_n | exact want_g rfl (by with_reducible rfl)))) | (apply Ws; (focus (exact ok_store tabT (d := none) rfl rfl rfl rfl rfl rfl rfl rfl rfl rfl)); (focus (first | exact want_n | exact want_g rfl (by with_reducible rfl)))) | (refine Wskip (by first | exact want_f rfl (by with_reducible exact b_nt) | exact want_f rfl (by with_reducible exact b_nf) | exact want_t rfl) rfl ?_) | refine Wgt rfl rfl (by first | assumption | omega | exact rfl) ?_ | refine Wgf rfl rfl (by first | assumption | omega | exact rfl) ?_ | (refine Wgb rfl rfl (by with_reducible assumption) ?_) | (refine cb_is _ (by assumption) ?_)))
  exact fin ⟨res_of rfl rfl rfl, trivial⟩
set_option maxRecDepth 100000 in
set_option maxHeartbeats 8000000 in
theorem a_awake6 : AFn Try.prog 31 [] (boolA true) := by
  refine AFn_intro Try.func31 rfl Try.ntmps31 rfl (by simp) [_] rfl fun E hE => ?_
  have c1 := a_lkey 0 (by omega)
  have hk := lawKey_ok 0
  have hkn : (lawKey 0).n = 1 := by rfl
  generalize lawKey 0 = k at c1 hk hkn
  have h3 := add_ok hk 1#64 3#64
  have h2 := add_ok hk 2#64 2#64
  have c2 := a_bufadd [⟨3, 1#64, k, Vl.zero, 3#64⟩] ⟨3, 2#64, k, Vl.zero, 2#64⟩ (one_bf h3) h2 (by simp)
  rw [one_add (b := ⟨3, 2#64, k, Vl.zero, 2#64⟩) h3 rfl] at c2
  have hT : composeM ⟨3, 1#64, k, Vl.zero, 3#64⟩ ⟨3, 2#64, k, Vl.zero, 2#64⟩ = ⟨3, 2#64, k, Vl.zero, 5#64⟩ := by
    unfold composeM
    rw [if_neg (by simp), if_neg (by show ¬ (3 : Int) = 1; omega), if_neg (by show ¬ (3 : Int) = 2; omega)]
    rfl
  rw [hT] at c2
  have c2' : AFn Try.prog 21 [.sl none 29 [.agg 29 [intA 3, .v (.int .u64 1), k.av, Vl.zero.av, .v (.int .u64 3)]], .agg 29 [intA 3, .v (.int .u64 2), k.av, Vl.zero.av, .v (.int .u64 2)]] (msgsA [⟨3, 2#64, k, Vl.zero, 5#64⟩]) := by
    rw [← av_three, ← av_two]; exact c2
  clear c2
  have ho := add_ok hk 2#64 5#64
  have hbS : bSum [⟨3, 2#64, k, Vl.zero, 5#64⟩] = 19 := by
    have : (⟨3, 2#64, k, Vl.zero, 5#64⟩ : Msg).size = 18 + k.n := by
      unfold Msg.size
      rw [if_pos ho, if_neg (by show ¬ (3 : Int) = 1; omega), if_pos rfl]
    simp [bSum, this, hkn]
  have h5 : D64 (⟨3, 2#64, k, Vl.zero, 5#64⟩ : Msg).add = 5 := D64_n 5 (by omega)
  have hTk : (⟨3, 2#64, k, Vl.zero, 5#64⟩ : Msg).key = k := rfl
  generalize (⟨3, 2#64, k, Vl.zero, 5#64⟩ : Msg) = M at c2' ho hbS h5 hTk
  have hbf := one_bf ho
  have c3 := a_buffind [M] k hbf.srt (by simp)
  rw [bget_hit hbf.srt (i := 0) (by simp) hTk] at c3
  have c3' : AFn Try.prog 14 [msgsA [M], k.av] (.tup [M.av, boolA true]) := c3
  have c4 := a_bufcheck [M] (by simp)
  rw [msgsOkB_true hbf.msgs] at c4
  have c5 := a_bufbytes [M] (by simp)
  rw [hbS] at c5
  have c6 := a_bufpart [M] [] 0 hbf.srt (by simp) (by simp) (by simp)
  have c6' : AFn Try.prog 25 [msgsA [M], keysA [], intA 0] (msgsA [M]) := c6
  have c7 := a_bufbatch [M] (by simp)
  rw [one_batch] at c7
  have c7' : AFn Try.prog 27 [msgsA [M]] (msgsA [M]) := c7
  have c8 := a_bufless [M] [M] hbf.srt (by simp) (by simp)
  rw [one_less ho] at c8
  have c9 := a_bufall [] [M] bf_nil (fun m hm => by simp at hm; subst hm; exact ho) (by simp) (by simp)
  have c9' : AFn Try.prog 23 [msgsA [], msgsA [M]] (msgsA [M]) := c9
  clear c3 c6 c7 c9
  have d1 := acall Try.func11 (c1) (by decide +kernel) (by decide +kernel)
  have d2 := acall Try.func21 (c2') (by decide +kernel) (by decide +kernel)
  have d3 := acall Try.func14 (c3') (by decide +kernel) (by decide +kernel)
  have d4 := acall Try.func16 (c4) (by decide +kernel) (by decide +kernel)
  have d5 := acall Try.func18 (c5) (by decide +kernel) (by decide +kernel)
  have d7 := acall Try.func27 (c7') (by decide +kernel) (by decide +kernel)
  have d8 := acall Try.func29 (c8) (by decide +kernel) (by decide +kernel)
  repeat (first | (first | refine Wend _ ?_ | refine AW_seq ?_ | refine AW_reg ?_ | refine AW_drw mixed ?_ | refine AW_block ?_ | refine AW_scope ?_ | refine thenA_n ?_ | refine blockA_n ?_ | refine blockA_h ?_ | refine scopeA_n ?_ | refine thenA_r ?_ | refine blockA_r ?_ | refine scopeA_r ?_ | refine thenA_e ?_ | refine scopeA_e ?_ | refine blockA_e rfl ?_ | refine AW_exit ?_ | refine AW_ret ?_ | refine AW_skip ?_ | refine AW_c rfl ?_ | with_reducible refine cb_t ?_ | with_reducible refine cb_f ?_ | with_reducible refine cb_yes (by first | assumption | omega) ?_ | with_reducible refine cb_no (by first | assumption | omega) ?_ | refine And.intro (by decide +kernel) ?_) | (first | (apply Wv; (focus (first | exact step_ok rfl rfl | exact o_idx rfl rfl rfl rfl (by first | assumption | omega | decide) | exact o_idx3 rfl rfl rfl rfl (by first | assumption | omega | decide) | exact o_idx2 rfl rfl rfl rfl rfl (by first | assumption | omega | decide) | exact o_idxr rfl rfl rfl rfl rfl rfl | exact o_lenm rfl rfl rfl | exact o_len rfl rfl rfl | exact o_len0 rfl rfl rfl | exact o_lens rfl rfl rfl | exact o_lent rfl rfl | exact o_add1 rfl rfl rfl (by omega) | exact o_addn rfl rfl rfl (by omega) | exact o_add rfl rfl rfl (by omega) | exact o_sub1 rfl rfl rfl (by omega) | exact o_sub rfl rfl rfl (by omega) | exact o_mul rfl rfl rfl (by omega) | exact o_rem rfl rfl rfl (by omega) | exact ok_rem rfl rfl rfl (by decide) rfl | exact o_eqKey rfl rfl rfl | exact o_neKey rfl rfl rfl | exact o_eqVl rfl rfl rfl | exact o_neVl rfl rfl rfl | exact o_eqEnt rfl rfl rfl | exact o_neEnt rfl rfl rfl | exact o_eqMsg rfl rfl rfl | exact o_neMsg rfl rfl rfl | exact o_acall rfl rfl rfl rfl (by assumption) | exact o_minn rfl rfl rfl | exact o_cutl rfl rfl rfl rfl (by omega) | exact o_cuth rfl rfl rfl rfl (by omega) | exact o_cutl3 rfl rfl rfl rfl (by omega) | exact o_cuth3 rfl rfl rfl rfl (by omega) | exact o_cutl2 rfl rfl rfl rfl rfl (by omega) | exact o_cuth2 rfl rfl rfl rfl rfl (by omega) | exact o_cutlh2 rfl rfl rfl rfl rfl rfl rfl (by omega) (by omega) | exact e_bld rfl rfl rfl | exact e_bldk rfl rfl | exact z_bld0 rfl rfl rfl rfl rfl | exact z_bld rfl rfl rfl rfl rfl rfl rfl | exact o_addu rfl rfl rfl | exact z_blda rfl rfl rfl rfl rfl rfl rfl rfl rfl | exact o_idxa rfl rfl rfl rfl rfl rfl | exact o_idxra rfl rfl rfl rfl rfl rfl rfl | exact o_quo2 rfl rfl rfl (by omega) | exact o_quo rfl rfl rfl (by omega))); (focus (first | exact want_n | exact want_g rfl (by with_reducible rfl)))) | (apply Wb; (focus (first | exact o_box rfl rfl rfl rfl | exact o_app rfl rfl rfl rfl rfl (by first | exact o_many rfl | exact o_one _ _ rfl) (by first | omega | (simp; omega) | simp) (by first | omega | (simp; omega) | simp) | exact o_appn rfl rfl rfl rfl rfl (by first | exact o_many rfl | exact o_one _ _ rfl) (by first | omega | (simp; omega) | simp) (by first | omega | (simp; omega) | simp) | exact o_app1 rfl rfl rfl rfl rfl (by first | exact o_many rfl | exact o_one _ _ rfl) (by exact rfl) (by first | omega | (simp; omega) | simp) (by first | omega | (simp; omega) | simp) | exact o_app0 rfl rfl rfl rfl rfl (by first | exact o_many rfl | exact o_one _ _ rfl) (by first | omega | (simp; omega) | simp) (by first | omega | (simp; omega) | simp) | exact o_bsl0 rfl rfl rfl | exact z_bsll rfl rfl rfl rfl rfl rfl rfl rfl rfl | exact z_alloc rfl rfl rfl)); (focus (first | exact want_n | exact want_g rfl (by with_reducible rfl)))) | (apply Ws; (focus (exact ok_store tabT (d := none) rfl rfl rfl rfl rfl rfl rfl rfl rfl rfl)); (focus (first | exact want_n | exact want_g rfl (by with_reducible rfl)))) | (refine Wskip (by first | exact want_f rfl (by with_reducible exact b_nt) | exact want_f rfl (by with_reducible exact b_nf) | exact want_t rfl) rfl ?_) | refine Wgt rfl rfl (by first | assumption | omega | exact rfl) ?_ | refine Wgf rfl rfl (by first | assumption | omega | exact rfl) ?_ | (refine Wgb rfl rfl (by with_reducible assumption) ?_) | (refine cb_is _ (by assumption) ?_)))
  (apply Wv; (focus (apply o_call Try.func25 (c6') rfl (by decide +kernel) rfl rfl; (any_goals (intro _; (repeat (first | exact wkl0 | refine wkd rfl ?_ | refine wkt ?_ | refine wkn ?_)); done)); (any_goals rfl))); (focus (first | exact want_n | exact want_g rfl (by with_reducible rfl))))
  repeat (first | (first | refine Wend _ ?_ | refine AW_seq ?_ | refine AW_reg ?_ | refine AW_drw mixed ?_ | refine AW_block ?_ | refine AW_scope ?_ | refine thenA_n ?_ | refine blockA_n ?_ | refine blockA_h ?_ | refine scopeA_n ?_ | refine thenA_r ?_ | refine blockA_r ?_ | refine scopeA_r ?_ | refine thenA_e ?_ | refine scopeA_e ?_ | refine blockA_e rfl ?_ | refine AW_exit ?_ | refine AW_ret ?_ | refine AW_skip ?_ | refine AW_c rfl ?_ | with_reducible refine cb_t ?_ | with_reducible refine cb_f ?_ | with_reducible refine cb_yes (by first | assumption | omega) ?_ | with_reducible refine cb_no (by first | assumption | omega) ?_ | refine And.intro (by decide +kernel) ?_) | (first | (apply Wv; (focus (first | exact step_ok rfl rfl | exact o_idx rfl rfl rfl rfl (by first | assumption | omega | decide) | exact o_idx3 rfl rfl rfl rfl (by first | assumption | omega | decide) | exact o_idx2 rfl rfl rfl rfl rfl (by first | assumption | omega | decide) | exact o_idxr rfl rfl rfl rfl rfl rfl | exact o_lenm rfl rfl rfl | exact o_len rfl rfl rfl | exact o_len0 rfl rfl rfl | exact o_lens rfl rfl rfl | exact o_lent rfl rfl | exact o_add1 rfl rfl rfl (by omega) | exact o_addn rfl rfl rfl (by omega) | exact o_add rfl rfl rfl (by omega) | exact o_sub1 rfl rfl rfl (by omega) | exact o_sub rfl rfl rfl (by omega) | exact o_mul rfl rfl rfl (by omega) | exact o_rem rfl rfl rfl (by omega) | exact ok_rem rfl rfl rfl (by decide) rfl | exact o_eqKey rfl rfl rfl | exact o_neKey rfl rfl rfl | exact o_eqVl rfl rfl rfl | exact o_neVl rfl rfl rfl | exact o_eqEnt rfl rfl rfl | exact o_neEnt rfl rfl rfl | exact o_eqMsg rfl rfl rfl | exact o_neMsg rfl rfl rfl | exact o_acall rfl rfl rfl rfl (by assumption) | exact o_minn rfl rfl rfl | exact o_cutl rfl rfl rfl rfl (by omega) | exact o_cuth rfl rfl rfl rfl (by omega) | exact o_cutl3 rfl rfl rfl rfl (by omega) | exact o_cuth3 rfl rfl rfl rfl (by omega) | exact o_cutl2 rfl rfl rfl rfl rfl (by omega) | exact o_cuth2 rfl rfl rfl rfl rfl (by omega) | exact o_cutlh2 rfl rfl rfl rfl rfl rfl rfl (by omega) (by omega) | exact e_bld rfl rfl rfl | exact e_bldk rfl rfl | exact z_bld0 rfl rfl rfl rfl rfl | exact z_bld rfl rfl rfl rfl rfl rfl rfl | exact o_addu rfl rfl rfl | exact z_blda rfl rfl rfl rfl rfl rfl rfl rfl rfl | exact o_idxa rfl rfl rfl rfl rfl rfl | exact o_idxra rfl rfl rfl rfl rfl rfl rfl | exact o_quo2 rfl rfl rfl (by omega) | exact o_quo rfl rfl rfl (by omega))); (focus (first | exact want_n | exact want_g rfl (by with_reducible rfl)))) | (apply Wb; (focus (first | exact o_box rfl rfl rfl rfl | exact o_app rfl rfl rfl rfl rfl (by first | exact o_many rfl | exact o_one _ _ rfl) (by first | omega | (simp; omega) | simp) (by first | omega | (simp; omega) | simp) | exact o_appn rfl rfl rfl rfl rfl (by first | exact o_many rfl | exact o_one _ _ rfl) (by first | omega | (simp; omega) | simp) (by first | omega | (simp; omega) | simp) | exact o_app1 rfl rfl rfl rfl rfl (by first | exact o_many rfl | exact o_one _ _ rfl) (by exact rfl) (by first | omega | (simp; omega) | simp) (by first | omega | (simp; omega) | simp) | exact o_app0 rfl rfl rfl rfl rfl (by first | exact o_many rfl | exact o_one _ _ rfl) (by first | omega | (simp; omega) | simp) (by first | omega | (simp; omega) | simp) | exact o_bsl0 rfl rfl rfl | exact z_bsll rfl rfl rfl rfl rfl rfl rfl rfl rfl | exact z_alloc rfl rfl rfl)); (focus (first | exact want_n | exact want_g rfl (by with_reducible rfl)))) | (apply Ws; (focus (exact ok_store tabT (d := none) rfl rfl rfl rfl rfl rfl rfl rfl rfl rfl)); (focus (first | exact want_n | exact want_g rfl (by with_reducible rfl)))) | (refine Wskip (by first | exact want_f rfl (by with_reducible exact b_nt) | exact want_f rfl (by with_reducible exact b_nf) | exact want_t rfl) rfl ?_) | refine Wgt rfl rfl (by first | assumption | omega | exact rfl) ?_ | refine Wgf rfl rfl (by first | assumption | omega | exact rfl) ?_ | (refine Wgb rfl rfl (by with_reducible assumption) ?_) | (refine cb_is _ (by assumption) ?_)))
  (apply Wv; (focus (apply o_call Try.func23 (c9') rfl (by decide +kernel) rfl rfl; (any_goals (intro _; (repeat (first | exact wkl0 | refine wkd rfl ?_ | refine wkt ?_ | refine wkn ?_)); done)); (any_goals rfl))); (focus (first | exact want_n | exact want_g rfl (by with_reducible rfl))))
  repeat (first | (first | refine Wend _ ?_ | refine AW_seq ?_ | refine AW_reg ?_ | refine AW_drw mixed ?_ | refine AW_block ?_ | refine AW_scope ?_ | refine thenA_n ?_ | refine blockA_n ?_ | refine blockA_h ?_ | refine scopeA_n ?_ | refine thenA_r ?_ | refine blockA_r ?_ | refine scopeA_r ?_ | refine thenA_e ?_ | refine scopeA_e ?_ | refine blockA_e rfl ?_ | refine AW_exit ?_ | refine AW_ret ?_ | refine AW_skip ?_ | refine AW_c rfl ?_ | with_reducible refine cb_t ?_ | with_reducible refine cb_f ?_ | with_reducible refine cb_yes (by first | assumption | omega) ?_ | with_reducible refine cb_no (by first | assumption | omega) ?_ | refine And.intro (by decide +kernel) ?_) | (first | (apply Wv; (focus (first | exact step_ok rfl rfl | exact o_idx rfl rfl rfl rfl (by first | assumption | omega | decide) | exact o_idx3 rfl rfl rfl rfl (by first | assumption | omega | decide) | exact o_idx2 rfl rfl rfl rfl rfl (by first | assumption | omega | decide) | exact o_idxr rfl rfl rfl rfl rfl rfl | exact o_lenm rfl rfl rfl | exact o_len rfl rfl rfl | exact o_len0 rfl rfl rfl | exact o_lens rfl rfl rfl | exact o_lent rfl rfl | exact o_add1 rfl rfl rfl (by omega) | exact o_addn rfl rfl rfl (by omega) | exact o_add rfl rfl rfl (by omega) | exact o_sub1 rfl rfl rfl (by omega) | exact o_sub rfl rfl rfl (by omega) | exact o_mul rfl rfl rfl (by omega) | exact o_rem rfl rfl rfl (by omega) | exact ok_rem rfl rfl rfl (by decide) rfl | exact o_eqKey rfl rfl rfl | exact o_neKey rfl rfl rfl | exact o_eqVl rfl rfl rfl | exact o_neVl rfl rfl rfl | exact o_eqEnt rfl rfl rfl | exact o_neEnt rfl rfl rfl | exact o_eqMsg rfl rfl rfl | exact o_neMsg rfl rfl rfl | exact o_acall rfl rfl rfl rfl (by assumption) | exact o_minn rfl rfl rfl | exact o_cutl rfl rfl rfl rfl (by omega) | exact o_cuth rfl rfl rfl rfl (by omega) | exact o_cutl3 rfl rfl rfl rfl (by omega) | exact o_cuth3 rfl rfl rfl rfl (by omega) | exact o_cutl2 rfl rfl rfl rfl rfl (by omega) | exact o_cuth2 rfl rfl rfl rfl rfl (by omega) | exact o_cutlh2 rfl rfl rfl rfl rfl rfl rfl (by omega) (by omega) | exact e_bld rfl rfl rfl | exact e_bldk rfl rfl | exact z_bld0 rfl rfl rfl rfl rfl | exact z_bld rfl rfl rfl rfl rfl rfl rfl | exact o_addu rfl rfl rfl | exact z_blda rfl rfl rfl rfl rfl rfl rfl rfl rfl | exact o_idxa rfl rfl rfl rfl rfl rfl | exact o_idxra rfl rfl rfl rfl rfl rfl rfl | exact o_quo2 rfl rfl rfl (by omega) | exact o_quo rfl rfl rfl (by omega))); (focus (first | exact want_n | exact want_g rfl (by with_reducible rfl)))) | (apply Wb; (focus (first | exact o_box rfl rfl rfl rfl | exact o_app rfl rfl rfl rfl rfl (by first | exact o_many rfl | exact o_one _ _ rfl) (by first | omega | (simp; omega) | simp) (by first | omega | (simp; omega) | simp) | exact o_appn rfl rfl rfl rfl rfl (by first | exact o_many rfl | exact o_one _ _ rfl) (by first | omega | (simp; omega) | simp) (by first | omega | (simp; omega) | simp) | exact o_app1 rfl rfl rfl rfl rfl (by first | exact o_many rfl | exact o_one _ _ rfl) (by exact rfl) (by first | omega | (simp; omega) | simp) (by first | omega | (simp; omega) | simp) | exact o_app0 rfl rfl rfl rfl rfl (by first | exact o_many rfl | exact o_one _ _ rfl) (by first | omega | (simp; omega) | simp) (by first | omega | (simp; omega) | simp) | exact o_bsl0 rfl rfl rfl | exact z_bsll rfl rfl rfl rfl rfl rfl rfl rfl rfl | exact z_alloc rfl rfl rfl)); (focus (first | exact want_n | exact want_g rfl (by with_reducible rfl)))) | (apply Ws; (focus (exact ok_store tabT (d := none) rfl rfl rfl rfl rfl rfl rfl rfl rfl rfl)); (focus (first | exact want_n | exact want_g rfl (by with_reducible rfl)))) | (refine Wskip (by first | exact want_f rfl (by with_reducible exact b_nt) | exact want_f rfl (by with_reducible exact b_nf) | exact want_t rfl) rfl ?_) | refine Wgt rfl rfl (by first | assumption | omega | exact rfl) ?_ | refine Wgf rfl rfl (by first | assumption | omega | exact rfl) ?_ | (refine Wgb rfl rfl (by with_reducible assumption) ?_) | (refine cb_is _ (by assumption) ?_)))
  exact fin ⟨res_of rfl rfl rfl, trivial⟩
end Go.Proofs.Ytigbkhjcboecjaa

namespace Go.Proofs.Ytigbkhjcboecjaa
open Go Go.RowKit
set_option linter.unusedVariables false
set_option linter.unusedSimpArgs false

/-! ### a message more -/
theorem get_hit_ex {l : List Msg} (h : BSrt l) {k : Key} {x : Msg} (hg : bfGet k l = some x) : ∃ hi : bfAt k l < l.length, l[bfAt k l].key = k := by
  obtain ⟨hm, hk⟩ := (bfGet_iff h k x).1 hg
  obtain ⟨i, hi, he⟩ := List.mem_iff_getElem.1 hm
  have e := bat_hit h (k := k) hi (by rw [he, hk])
  subst e
  exact ⟨hi, by rw [he, hk]⟩
theorem add_len_hit {l : List Msg} (h : BSrt l) {m x : Msg} (hg : bfGet m.key l = some x) : (bfAdd l m).length = l.length := by
  obtain ⟨hi, he⟩ := get_hit_ex h hg
  rw [add_hit h m hi he]
  simp only [List.length_append, List.length_take, List.length_drop, List.length_singleton]
  omega
theorem add_len_no {l : List Msg} (h : Bf l) {m : Msg} (hm : m.ok = true) (hg : bfGet m.key l = none) : (bfAdd l m).length = l.length + 1 := by
  have hle := bfAt_le m.key l
  rw [add_no h m (Msg.spec hm).2.2.1 (fun hi e => by rw [bget_hit h.srt hi e] at hg; cases hg)]
  simp only [List.length_append, List.length_take, List.length_drop, List.length_singleton]
  omega
/-! ### batches -/
theorem batch_facts (l : List Msg) : batchN l ≤ l.length ∧ bSum (l.take (batchN l)) ≤ 96 ∧ min 2 l.length ≤ batchN l ∧ (batchN l < l.length → 96 < bSum (l.take (batchN l + 1))) := by
  obtain ⟨h1, h2, h3, h4⟩ := batchF_le l l.length 0 (Nat.zero_le _)
  change batchN l ≤ _ at h1
  have h3' := h3 (by omega)
  change batchN l < l.length → 96 < bSum (l.take (batchN l + 1)) at h3'
  change 0 = batchN l ∨ bSum (l.take (batchN l)) ≤ 96 at h4
  refine ⟨h1, ?_, ?_, h3'⟩
  · rcases h4 with h4 | h4
    · rw [← h4]; simp [bSum]
    · exact h4
  · by_cases c : batchN l < l.length
    · have h5 := h3' c
      have h6 := bSum_le (l.take (batchN l + 1))
      rw [List.length_take] at h6
      by_cases d : 2 ≤ batchN l
      · omega
      · omega
    · omega
theorem less_take {l : List Msg} (h : BSrt l) (n : Nat) : bfLess l (l.take n) = l.drop n := by
  have hs : BSrt (l.take n) := h.sublist (List.take_sublist n l)
  have hp := List.pairwise_iff_getElem.1 h
  have e : l = l.take n ++ l.drop n := (List.take_append_drop n l).symm
  unfold bfLess
  rw [show l.filter (goneP (l.take n)) = (l.take n ++ l.drop n).filter (goneP (l.take n)) from by rw [← e], List.filter_append]
  have h1 : (l.take n).filter (goneP (l.take n)) = [] := by
    rw [List.filter_eq_nil_iff]
    intro m hm
    unfold goneP
    rw [(bfGet_iff hs m.key m).2 ⟨hm, rfl⟩]
    simp
  have h2 : (l.drop n).filter (goneP (l.take n)) = l.drop n := by
    rw [List.filter_eq_self]
    intro m hm
    unfold goneP
    cases hg : bfGet m.key (l.take n) with
    | none => rfl
    | some x =>
      obtain ⟨h3, h4⟩ := (bfGet_iff hs m.key x).1 hg
      obtain ⟨i, hi, rfl⟩ := List.mem_iff_getElem.1 h3
      obtain ⟨j, hj, rfl⟩ := List.mem_iff_getElem.1 hm
      rw [List.length_take] at hi
      rw [List.length_drop] at hj
      have := h.lt (i := i) (j := n + j) (by omega) (by omega) (by omega)
      simp only [List.getElem_take, List.getElem_drop] at h4
      rw [h4] at this; omega
  rw [h1, h2]
  rfl
/-! ### what is left -/
theorem less_bf {l : List Msg} (h : Bf l) (g : List Msg) : Bf (bfLess l g) := ⟨fun m hm => h.ok m (List.mem_filter.1 hm).1, h.srt.sublist List.filter_sublist⟩
theorem less_len (l g : List Msg) : (bfLess l g).length ≤ l.length := List.length_filter_le _ _
theorem less_get {l : List Msg} (h : Bf l) (g : List Msg) (k : Key) : bfGet k (bfLess l g) = if (bfGet k g).isSome = true then none else bfGet k l := by
  apply Option.ext
  intro m
  rw [bfGet_iff (less_bf h g).srt]
  unfold bfLess
  rw [List.mem_filter]
  by_cases c : (bfGet k g).isSome = true
  · rw [if_pos c]
    constructor
    · rintro ⟨⟨_, h2⟩, rfl⟩
      unfold goneP at h2
      rw [c] at h2; cases h2
    · intro e; cases e
  · rw [if_neg c, bfGet_iff h.srt]
    constructor
    · rintro ⟨⟨h1, _⟩, h2⟩; exact ⟨h1, h2⟩
    · rintro ⟨h1, rfl⟩
      refine ⟨⟨h1, ?_⟩, rfl⟩
      unfold goneP
      simpa using c
theorem less_nil (l : List Msg) : bfLess l [] = l := by
  unfold bfLess
  rw [List.filter_eq_self]
  intro m _; rfl
theorem less_self {l : List Msg} (h : BSrt l) : bfLess l l = [] := by
  have := less_take h l.length
  rw [List.take_length, List.drop_length] at this
  exact this
/-! ### folds -/
theorem get_ball_srt {x : Key} (hx : x.ok = true) : ∀ {ms b : List Msg}, Bf b → Bf ms → bfGet x (bfAll b ms) = match bfGet x ms with
    | some m => some (newM m (bfGet x b))
    | none => bfGet x b
  | [], b, _, _ => rfl
  | m :: ms, b, h, hm => by
    have hm0 := hm.ok m (by simp)
    have ht : Bf ms := ⟨fun y hy => hm.ok y (List.mem_cons_of_mem _ hy), hm.srt.tail⟩
    have ih := get_ball_srt hx (bf_add h hm0) ht
    have e1 : bfAll b (m :: ms) = bfAll (bfAdd b m) ms := rfl
    rw [e1, ih, get_add h hm0 hx]
    by_cases c : x = m.key
    · have hg : bfGet x ms = none := by
        unfold bfGet
        rw [List.find?_eq_none]
        intro y hy
        have := hm.srt.head y hy
        simp only [decide_eq_true_eq]
        intro e
        rw [e, c] at this; omega
      have hg2 : bfGet x (m :: ms) = some m := by unfold bfGet; rw [List.find?_cons_of_pos]; simp [c]
      rw [hg, hg2, if_pos c, c]
    · have hg2 : bfGet x (m :: ms) = bfGet x ms := by unfold bfGet; rw [List.find?_cons_of_neg]; simp; exact fun e => c e.symm
      rw [hg2, if_neg c]
theorem ball_nil {l : List Msg} (h : Bf l) : bfAll [] l = l := by
  refine bf_ext (bf_all bf_nil h.ok) h fun k hk => ?_
  rw [get_ball_srt hk bf_nil h]
  cases bfGet k l <;> rfl
/-! ### parts -/
def partI (l : List Msg) (cuts : List Key) (i : Int) : List Msg := if 0 ≤ i ∧ i ≤ cuts.length then bfPart l cuts i.toNat else []
theorem part_len (l : List Msg) (cuts : List Key) (n : Nat) : (bfPart l cuts n).length ≤ l.length := by
  unfold bfPart
  rw [List.length_drop, List.length_take]; omega
theorem partI_len (l : List Msg) (cuts : List Key) (i : Int) : (partI l cuts i).length ≤ l.length := by
  unfold partI
  split
  · exact part_len _ _ _
  · simp
theorem a_bufpartI (l : List Msg) (cuts : List Key) (i : Int) (h : BSrt l) (hl : l.length ≤ 100000000) (hl2 : cuts.length ≤ 100000000) : AFn Try.prog 25 [msgsA l, keysA cuts, intA i] (msgsA (partI l cuts i)) := by
  unfold partI
  by_cases c : 0 ≤ i ∧ i ≤ cuts.length
  · rw [if_pos c]
    have := a_bufpart l cuts i.toNat h (by omega) hl hl2
    rwa [Int.toNat_of_nonneg c.1] at this
  · rw [if_neg c]
    exact a_bufpart_no l cuts i (by omega)
theorem a_ref06partI (l : List Msg) (cuts : List Key) (i : Int) (h : Bf l) (hr : Rise cuts) (hl : l.length ≤ 100000000) (hl2 : cuts.length ≤ 100000000) : AFn Try.prog 26 [msgsA l, keysA cuts, intA i] (msgsA (partI l cuts i)) := by
  unfold partI
  by_cases c : 0 ≤ i ∧ i ≤ cuts.length
  · rw [if_pos c]
    have := a_ref06part l cuts i.toNat h hr (by omega) hl hl2
    rwa [Int.toNat_of_nonneg c.1] at this
  · rw [if_neg c]
    exact a_ref06part_no l cuts i (by omega)
end Go.Proofs.Ytigbkhjcboecjaa

namespace Go.Proofs.Ytigbkhjcboecjaa
open Go Go.RowKit
set_option linter.unusedVariables false
set_option linter.unusedSimpArgs false

def Ent.size (e : Ent) : Int := 2 + e.key.n + e.val.n
def eSum (l : List Ent) : Int := (l.map Ent.size).sum
def lfAt (k : Key) (l : List Ent) : Nat := l.countP fun e => decide (e.key.rank < k.rank)
def Srt (l : List Ent) : Prop := l.Pairwise fun a b => a.key.rank < b.key.rank
def EOk (l : List Ent) : Prop := ∀ e ∈ l, e.key.ok = true ∧ e.val.ok = true
structure Lf (l : List Ent) : Prop where
  ok : EOk l
  srt : Srt l
/-- a key's value -/
def lfGet (k : Key) (l : List Ent) : Option Vl := (l.find? fun e => decide (e.key = k)).map (·.val)
/-- what a message makes of a key's value -/
def ap (m : Msg) (o : Option Vl) : Option Vl := if m.kind = 1 then some m.val else if m.kind = 2 then none else match o with
  | some v => some (vplus v m.add)
  | none => some (fromN m.add)
def opA (o : Option Vl) : Vl × Bool := match o with
  | some v => (v, true)
  | none => (Vl.zero, false)
theorem applyM_ap (m : Msg) (o : Option Vl) : applyM (opA o).1 (opA o).2 m = opA (ap m o) := by
  unfold applyM ap
  by_cases h1 : m.kind = 1
  · rw [if_pos h1, if_pos h1]; rfl
  · rw [if_neg h1, if_neg h1]
    by_cases h2 : m.kind = 2
    · rw [if_pos h2, if_pos h2]; rfl
    · rw [if_neg h2, if_neg h2]
      cases o <;> rfl
def newE (k : Key) (o : Option Vl) : List Ent := match o with
  | some v => [⟨k, v⟩]
  | none => []
def lfSet (l : List Ent) (k : Key) (o : Option Vl) : List Ent := l.filter (fun e => decide (e.key.rank < k.rank)) ++ (newE k o ++ l.filter (fun e => decide (k.rank < e.key.rank)))
/-- the leaf behind a message -/
def lfPut (l : List Ent) (m : Msg) : List Ent := lfSet l m.key (ap m (lfGet m.key l))
def lfAll (l : List Ent) (ms : List Msg) : List Ent := ms.foldl lfPut l

theorem lfAt_le (k : Key) (l : List Ent) : lfAt k l ≤ l.length := List.countP_le_length
theorem lfAt_cons (k : Key) (e : Ent) (l : List Ent) : lfAt k (e :: l) = lfAt k l + if e.key.rank < k.rank then 1 else 0 := by
  unfold lfAt
  rw [List.countP_cons]
  simp
theorem Srt.tail {e : Ent} {l : List Ent} (h : Srt (e :: l)) : Srt l := (List.pairwise_cons.1 h).2
theorem Srt.head {e : Ent} {l : List Ent} (h : Srt (e :: l)) : ∀ b ∈ l, e.key.rank < b.key.rank := (List.pairwise_cons.1 h).1
theorem lfAt_zero {k : Key} {l : List Ent} (h : ∀ b ∈ l, k.rank ≤ b.key.rank) : lfAt k l = 0 := by
  unfold lfAt
  rw [List.countP_eq_zero]
  intro b hb
  have := h b hb
  simp; omega
theorem lfAt_iff {k : Key} {l : List Ent} (h : Srt l) : ∀ i (hi : i < l.length), (i < lfAt k l ↔ l[i].key.rank < k.rank) := by
  induction l with
  | nil => intro i hi; cases hi
  | cons e l ih =>
    intro i hi
    rw [lfAt_cons]
    by_cases c : e.key.rank < k.rank
    · rw [if_pos c]
      cases i with
      | zero => simp [c]
      | succ i => simpa using ih h.tail i (by simpa using hi)
    · rw [if_neg c]
      have hz : lfAt k l = 0 := lfAt_zero fun b hb => by have := h.head b hb; omega
      rw [hz]
      cases i with
      | zero => simp; omega
      | succ i =>
        have hi' : i < l.length := by simpa using hi
        have := h.head l[i] (List.getElem_mem hi')
        simp; omega
theorem Srt.lt {l : List Ent} (h : Srt l) {i j : Nat} (hi : i < l.length) (hj : j < l.length) (hij : i < j) : l[i].key.rank < l[j].key.rank := List.pairwise_iff_getElem.1 h i j hi hj hij
theorem Srt.inj {l : List Ent} (h : Srt l) {a b : Ent} (ha : a ∈ l) (hb : b ∈ l) (he : a.key.rank = b.key.rank) : a = b := by
  obtain ⟨i, hi, rfl⟩ := List.mem_iff_getElem.1 ha
  obtain ⟨j, hj, rfl⟩ := List.mem_iff_getElem.1 hb
  rcases Nat.lt_trichotomy i j with c | c | c
  · have := h.lt hi hj c; omega
  · subst c; rfl
  · have := h.lt hj hi c; omega
theorem lfGet_iff {l : List Ent} (h : Srt l) (k : Key) (v : Vl) : lfGet k l = some v ↔ (⟨k, v⟩ : Ent) ∈ l := by
  unfold lfGet
  constructor
  · intro hf
    rw [Option.map_eq_some_iff] at hf
    obtain ⟨e, h1, h2⟩ := hf
    have h3 := List.mem_of_find?_eq_some h1
    have h4 := List.find?_some h1
    rw [decide_eq_true_eq] at h4
    subst h4; subst h2
    exact h3
  · intro hm
    cases hf : l.find? (fun e => decide (e.key = k)) with
    | none =>
      rw [List.find?_eq_none] at hf
      have := hf _ hm
      simp at this
    | some e =>
      have h3 := List.mem_of_find?_eq_some hf
      have h4 := List.find?_some hf
      rw [decide_eq_true_eq] at h4
      have := h.inj h3 hm (by rw [h4])
      rw [this]; rfl
theorem srt_ext : ∀ {l1 l2 : List Ent}, Srt l1 → Srt l2 → (∀ e, e ∈ l1 ↔ e ∈ l2) → l1 = l2
  | [], l2, _, _, h => by
    cases l2 with
    | nil => rfl
    | cons b l => exact absurd ((h b).2 (by simp)) (by simp)
  | a :: l1, [], _, _, h => absurd ((h a).1 (by simp)) (by simp)
  | a :: l1, b :: l2, h1, h2, h => by
    have hab : a = b := by
      have m1 := (h a).1 (by simp)
      have m2 := (h b).2 (by simp)
      rcases List.mem_cons.1 m1 with m1 | m1
      · exact m1
      · rcases List.mem_cons.1 m2 with m2 | m2
        · exact m2.symm
        · have := h2.head a m1
          have := h1.head b m2
          omega
    subst hab
    rw [srt_ext h1.tail h2.tail (fun e => ?_)]
    constructor
    · intro he
      rcases List.mem_cons.1 ((h e).1 (List.mem_cons_of_mem _ he)) with c | c
      · subst c; have := h1.head e he; omega
      · exact c
    · intro he
      rcases List.mem_cons.1 ((h e).2 (List.mem_cons_of_mem _ he)) with c | c
      · subst c; have := h2.head e he; omega
      · exact c
theorem lf_ext {l1 l2 : List Ent} (h1 : Lf l1) (h2 : Lf l2) (h : ∀ k, k.ok = true → lfGet k l1 = lfGet k l2) : l1 = l2 := by
  refine srt_ext h1.srt h2.srt fun e => ?_
  have a := lfGet_iff h1.srt e.key e.val
  have b := lfGet_iff h2.srt e.key e.val
  constructor
  · intro he
    exact b.1 ((h _ (h1.ok e he).1) ▸ a.2 he)
  · intro he
    exact a.1 ((h _ (h2.ok e he).1).symm ▸ b.2 he)
/-! ### a key's entry by its place -/
theorem get_hit {l : List Ent} (h : Srt l) {k : Key} {i : Nat} (hi : i < l.length) (he : l[i].key = k) : lfGet k l = some l[i].val := by
  rw [lfGet_iff h]
  subst he
  exact List.getElem_mem hi
theorem at_hit {l : List Ent} (h : Srt l) {k : Key} {i : Nat} (hi : i < l.length) (he : l[i].key.rank = k.rank) : lfAt k l = i := by
  have h1 := (lfAt_iff (k := k) h i hi)
  have h3 := lfAt_le k l
  rcases Nat.lt_trichotomy (lfAt k l) i with c | c | c
  · have h4 := (lfAt_iff (k := k) h (lfAt k l) (by omega))
    have := h.lt (by omega) hi c
    omega
  · exact c
  · omega
theorem get_no {l : List Ent} (h : Srt l) {k : Key} (hn : ∀ (hi : lfAt k l < l.length), l[lfAt k l].key ≠ k) : lfGet k l = none := by
  cases hg : lfGet k l with
  | none => rfl
  | some v =>
    rw [lfGet_iff h] at hg
    obtain ⟨i, hi, he⟩ := List.mem_iff_getElem.1 hg
    have := at_hit h (k := k) hi (by rw [he])
    subst this
    exact absurd (by rw [he]) (hn hi)
theorem get_none {l : List Ent} {k : Key} (hn : ∀ i (hi : i < l.length), l[i].key ≠ k) : lfGet k l = none := by
  unfold lfGet
  rw [List.find?_eq_none.2]
  · rfl
  · intro e he
    obtain ⟨i, hi, rfl⟩ := List.mem_iff_getElem.1 he
    simpa using hn i hi
theorem flt_lo {k : Key} {l : List Ent} (h : Srt l) : l.filter (fun e => decide (e.key.rank < k.rank)) = l.take (lfAt k l) := by
  induction l with
  | nil => rfl
  | cons e l ih =>
    rw [lfAt_cons]
    by_cases c : e.key.rank < k.rank
    · rw [if_pos c, List.filter_cons_of_pos (by simpa using c), List.take_succ_cons, ih h.tail]
    · rw [if_neg c, List.filter_cons_of_neg (by simpa using c)]
      have hz : lfAt k l = 0 := lfAt_zero fun b hb => by have := h.head b hb; omega
      rw [ih h.tail, hz]
      rfl
theorem flt_all {k : Key} {l : List Ent} (h : ∀ b ∈ l, k.rank < b.key.rank) : l.filter (fun e => decide (k.rank < e.key.rank)) = l := by
  rw [List.filter_eq_self]
  intro b hb
  simpa using h b hb
theorem flt_hi {k : Key} {l : List Ent} (h : Srt l) : l.filter (fun e => decide (k.rank < e.key.rank)) = l.drop (lfAt k l + if (∃ hi : lfAt k l < l.length, l[lfAt k l].key.rank = k.rank) then 1 else 0) := by
  induction l with
  | nil => simp
  | cons e l ih =>
    by_cases c : e.key.rank < k.rank
    · have e1 : lfAt k (e :: l) = lfAt k l + 1 := by rw [lfAt_cons, if_pos c]
      have e2 : (∃ hi : lfAt k (e :: l) < (e :: l).length, (e :: l)[lfAt k (e :: l)].key.rank = k.rank) ↔ (∃ hi : lfAt k l < l.length, l[lfAt k l].key.rank = k.rank) := by
        simp only [e1]
        constructor
        · rintro ⟨h1, h2⟩; exact ⟨by simpa using h1, by simpa using h2⟩
        · rintro ⟨h1, h2⟩; exact ⟨by simpa using h1, by simpa using h2⟩
      have ih' := ih h.tail
      rw [List.filter_cons_of_neg (by simp; omega), ih']
      by_cases g : ∃ hi : lfAt k l < l.length, l[lfAt k l].key.rank = k.rank
      · rw [if_pos g, if_pos (e2.2 g), e1, show lfAt k l + 1 + 1 = (lfAt k l + 1) + 1 from rfl, List.drop_succ_cons]
      · rw [if_neg g, if_neg (fun x => g (e2.1 x)), e1, Nat.add_zero, Nat.add_zero, List.drop_succ_cons]
    · have hz : lfAt k l = 0 := lfAt_zero fun b hb => by have := h.head b hb; omega
      have e1 : lfAt k (e :: l) = 0 := by rw [lfAt_cons, if_neg c, hz]
      rw [e1]
      by_cases d : e.key.rank = k.rank
      · rw [if_pos ⟨by simp [e1], by simpa [e1] using d⟩, List.filter_cons_of_neg (by simp; omega), flt_all (fun b hb => by have := h.head b hb; omega)]
        rfl
      · rw [if_neg (fun ⟨_, h2⟩ => d (by simpa [e1] using h2)), flt_all (fun b hb => by
          rcases List.mem_cons.1 hb with rfl | hb
          · omega
          · have := h.head b hb; omega)]
        rfl
theorem set_hit {l : List Ent} (h : Srt l) {k : Key} (o : Option Vl) (hi : lfAt k l < l.length) (he : l[lfAt k l].key = k) : lfSet l k o = l.take (lfAt k l) ++ (newE k o ++ l.drop (lfAt k l + 1)) := by
  unfold lfSet
  rw [flt_lo h, flt_hi h, if_pos ⟨hi, by rw [he]⟩]
theorem set_no {l : List Ent} (h : Lf l) {k : Key} (hk : k.ok = true) (o : Option Vl) (hn : ∀ (hi : lfAt k l < l.length), l[lfAt k l].key ≠ k) : lfSet l k o = l.take (lfAt k l) ++ (newE k o ++ l.drop (lfAt k l)) := by
  unfold lfSet
  rw [flt_lo h.srt, flt_hi h.srt, if_neg]
  · rfl
  · rintro ⟨hi, h2⟩
    exact hn hi ((rank_inj (h.ok _ (List.getElem_mem hi)).1 hk).1 h2)
/-! ### of a leaf with a key set -/
theorem mem_set {l : List Ent} {k : Key} {o : Option Vl} {e : Ent} : e ∈ lfSet l k o ↔ (e ∈ l ∧ e.key.rank ≠ k.rank) ∨ (e.key = k ∧ o = some e.val) := by
  unfold lfSet
  simp only [List.mem_append, List.mem_filter, decide_eq_true_eq]
  have hn : e ∈ newE k o ↔ e.key = k ∧ o = some e.val := by
    unfold newE
    cases o with
    | none => simp
    | some v =>
      simp only [List.mem_singleton, Option.some.injEq]
      constructor
      · rintro rfl; exact ⟨rfl, rfl⟩
      · rintro ⟨h1, h2⟩; cases e; simp_all
  rw [hn]
  constructor
  · rintro (⟨h1, h2⟩ | h1 | ⟨h1, h2⟩)
    · exact .inl ⟨h1, by omega⟩
    · exact .inr h1
    · exact .inl ⟨h1, by omega⟩
  · rintro (⟨h1, h2⟩ | h1)
    · rcases Nat.lt_or_gt_of_ne h2 with c | c
      · exact .inl ⟨h1, c⟩
      · exact .inr (.inr ⟨h1, c⟩)
    · exact .inr (.inl h1)
theorem srt_set {l : List Ent} (h : Srt l) (k : Key) (o : Option Vl) : Srt (lfSet l k o) := by
  unfold Srt lfSet
  have hn : ∀ e ∈ newE k o, e.key = k := fun e he => by
    unfold newE at he
    cases o with
    | none => cases he
    | some v => simp only [List.mem_singleton] at he; subst he; rfl
  rw [List.pairwise_append, List.pairwise_append]
  refine ⟨h.sublist List.filter_sublist, ⟨?_, h.sublist List.filter_sublist, fun a ha b hb => ?_⟩, fun a ha b hb => ?_⟩
  · unfold newE
    cases o with
    | none => exact List.Pairwise.nil
    | some v => exact List.pairwise_singleton ..
  · rw [hn a ha]
    simpa using (List.mem_filter.1 hb).2
  · have h1 : a.key.rank < k.rank := by simpa using (List.mem_filter.1 ha).2
    rcases List.mem_append.1 hb with hb | hb
    · rw [hn b hb]; exact h1
    · have h2 : k.rank < b.key.rank := by simpa using (List.mem_filter.1 hb).2
      omega
def OOk (o : Option Vl) : Prop := ∀ v, o = some v → v.ok = true
theorem lf_set {l : List Ent} (h : Lf l) {k : Key} (hk : k.ok = true) {o : Option Vl} (ho : OOk o) : Lf (lfSet l k o) := by
  refine ⟨fun e he => ?_, srt_set h.srt k o⟩
  rcases mem_set.1 he with ⟨h1, _⟩ | ⟨h1, h2⟩
  · exact h.ok e h1
  · exact ⟨by rw [h1]; exact hk, ho _ h2⟩
theorem get_set {l : List Ent} (h : Lf l) {k : Key} (hk : k.ok = true) (o : Option Vl) {x : Key} (hx : x.ok = true) : lfGet x (lfSet l k o) = if x = k then o else lfGet x l := by
  apply Option.ext
  intro v
  rw [lfGet_iff (srt_set h.srt k o), mem_set]
  by_cases c : x = k
  · rw [if_pos c]; subst c
    simp
  · rw [if_neg c, lfGet_iff h.srt]
    have : x.rank ≠ k.rank := fun e => c ((rank_inj hx hk).1 e)
    simp [c, this]
theorem get_ok {l : List Ent} (h : Lf l) (k : Key) : OOk (lfGet k l) := fun v hv => (h.ok _ ((lfGet_iff h.srt k v).1 hv)).2
theorem vplus_ok (v : Vl) (n : BitVec 64) : (vplus v n).ok = true := fromN_ok _
theorem ap_ok {m : Msg} (hm : m.ok = true) {o : Option Vl} (ho : OOk o) : OOk (ap m o) := by
  obtain ⟨h1, h2, h3, h4, _⟩ := Msg.spec hm
  unfold ap
  intro v hv
  split at hv
  · injection hv with hv; subst hv; exact h4
  · split at hv
    · cases hv
    · split at hv
      · injection hv with hv; subst hv; exact vplus_ok _ _
      · injection hv with hv; subst hv; exact fromN_ok _
theorem lf_put {l : List Ent} (h : Lf l) {m : Msg} (hm : m.ok = true) : Lf (lfPut l m) := lf_set h (Msg.spec hm).2.2.1 (ap_ok hm (get_ok h _))
theorem get_put {l : List Ent} (h : Lf l) {m : Msg} (hm : m.ok = true) {x : Key} (hx : x.ok = true) : lfGet x (lfPut l m) = if x = m.key then ap m (lfGet m.key l) else lfGet x l := get_set h (Msg.spec hm).2.2.1 _ hx
theorem lf_all {ms : List Msg} : ∀ {l : List Ent}, Lf l → (∀ m ∈ ms, m.ok = true) → Lf (lfAll l ms) := by
  induction ms with
  | nil => intro l h _; exact h
  | cons m ms ih => intro l h hm; exact ih (lf_put h (hm m (by simp))) (fun x hx => hm x (List.mem_cons_of_mem _ hx))
theorem lf_nil : Lf [] := ⟨(fun e h => by cases h), List.Pairwise.nil⟩
theorem set_len {l : List Ent} (k : Key) (o : Option Vl) : (lfSet l k o).length ≤ l.length + 1 := by
  unfold lfSet
  have h1 : (newE k o).length ≤ 1 := by unfold newE; cases o <;> simp
  have h2 : (l.filter (fun e => decide (e.key.rank < k.rank))).length + (l.filter (fun e => decide (k.rank < e.key.rank))).length ≤ l.length := by
    induction l with
    | nil => simp
    | cons e l ih =>
      simp only [List.filter_cons]
      split <;> split <;> simp_all <;> omega
  simp only [List.length_append]
  omega
theorem put_len (l : List Ent) (m : Msg) : (lfPut l m).length ≤ l.length + 1 := set_len _ _
theorem all_len : ∀ (ms : List Msg) (l : List Ent), (lfAll l ms).length ≤ l.length + ms.length
  | [], l => by simp [lfAll]
  | m :: ms, l => by
    have h1 := all_len ms (lfPut l m)
    have h2 := put_len l m
    simp only [lfAll, List.foldl_cons, List.length_cons] at h1 ⊢
    omega
end Go.Proofs.Ytigbkhjcboecjaa

namespace Go.Proofs.Ytigbkhjcboecjaa
open Go Go.RowKit
set_option linter.unusedVariables false
set_option linter.unusedSimpArgs false

def apO (b : Option Msg) (o : Option Vl) : Option Vl := match b with
  | some m => ap m o
  | none => o
theorem ap_compose {y m : Msg} (hy : y.ok = true) (hm : m.ok = true) (hk : y.key = m.key) (o : Option Vl) : ap (composeM y m) o = ap m (ap y o) := by
  have h1 := Msg.spec hy
  have h2 := Msg.spec hm
  unfold composeM
  by_cases c : m.kind = 3
  · rw [if_neg (by simp [c, hk])]
    by_cases c1 : y.kind = 1
    · rw [if_pos c1]; simp [ap, c, c1]
    · rw [if_neg c1]
      by_cases c2 : y.kind = 2
      · rw [if_pos c2]; simp [ap, c, c1, c2]
      · rw [if_neg c2]
        cases o with
        | none => simp [ap, c, c1, c2, vplus_from]
        | some v => simp [ap, c, c1, c2, vplus_plus]
  · rw [if_pos (.inl c)]
    unfold ap
    by_cases c1 : m.kind = 1
    · rw [if_pos c1, if_pos c1]
    · have c2 : m.kind = 2 := by omega
      rw [if_neg c1, if_neg c1, if_pos c2, if_pos c2]
theorem ap_newM {m : Msg} (hm : m.ok = true) {b : Option Msg} (hb : ∀ y, b = some y → y.ok = true ∧ y.key = m.key) (o : Option Vl) : ap (newM m b) o = ap m (apO b o) := by
  cases b with
  | none => rfl
  | some y => exact ap_compose (hb y rfl).1 hm (hb y rfl).2 o
/-- what messages make of one key's value, one by one -/
def runV (x : Key) (ms : List Msg) (o : Option Vl) : Option Vl := ms.foldl (fun o m => if x = m.key then ap m o else o) o
theorem get_all {x : Key} (hx : x.ok = true) : ∀ {ms : List Msg} {l : List Ent}, Lf l → (∀ m ∈ ms, m.ok = true) → lfGet x (lfAll l ms) = runV x ms (lfGet x l)
  | [], l, _, _ => rfl
  | m :: ms, l, h, hm => by
    have hm0 := hm m (by simp)
    have ih := get_all hx (ms := ms) (lf_put h hm0) (fun y hy => hm y (List.mem_cons_of_mem _ hy))
    have e1 : lfAll l (m :: ms) = lfAll (lfPut l m) ms := rfl
    rw [e1, ih, get_put h hm0 hx]
    unfold runV
    rw [List.foldl_cons]
    by_cases c : x = m.key
    · rw [if_pos c, if_pos c, c]
    · rw [if_neg c, if_neg c]
theorem get_ball {x : Key} (hx : x.ok = true) (o : Option Vl) : ∀ {ms b : List Msg}, Bf b → (∀ m ∈ ms, m.ok = true) → apO (bfGet x (bfAll b ms)) o = runV x ms (apO (bfGet x b) o)
  | [], b, _, _ => rfl
  | m :: ms, b, h, hm => by
    have hm0 := hm m (by simp)
    have ih := get_ball hx o (ms := ms) (bf_add h hm0) (fun y hy => hm y (List.mem_cons_of_mem _ hy))
    have e1 : bfAll b (m :: ms) = bfAll (bfAdd b m) ms := rfl
    rw [e1, ih, get_add h hm0 hx]
    unfold runV
    rw [List.foldl_cons]
    by_cases c : x = m.key
    · rw [if_pos c, if_pos c]
      congr 1
      show ap (newM m (bfGet m.key b)) o = _
      rw [ap_newM hm0 (fun y hy => ⟨bget_ok h _ y hy, ((bfGet_iff h.srt _ y).1 hy).2⟩), c]
    · rw [if_neg c, if_neg c]
theorem runV_bf {x : Key} (o : Option Vl) : ∀ {b : List Msg}, BSrt b → runV x b o = apO (bfGet x b) o
  | [], _ => rfl
  | m :: b, h => by
    have e1 : runV x (m :: b) o = runV x b (if x = m.key then ap m o else o) := rfl
    rw [e1, runV_bf _ h.tail]
    by_cases c : x = m.key
    · have hg : bfGet x b = none := by
        unfold bfGet
        rw [List.find?_eq_none]
        intro y hy
        have := h.head y hy
        simp only [decide_eq_true_eq]
        intro e
        rw [e, c] at this; omega
      have hg2 : bfGet x (m :: b) = some m := by unfold bfGet; rw [List.find?_cons_of_pos]; simp [c]
      rw [if_pos c, hg, hg2]
      rfl
    · have hg2 : bfGet x (m :: b) = bfGet x b := by unfold bfGet; rw [List.find?_cons_of_neg]; simp; exact fun e => c e.symm
      rw [if_neg c, hg2]
/-- composed in a buffer they do the same -/
theorem all_ball {l : List Ent} (h : Lf l) {ms : List Msg} (hm : ∀ m ∈ ms, m.ok = true) : lfAll l (bfAll [] ms) = lfAll l ms := by
  have hb := bf_all bf_nil hm
  refine lf_ext (lf_all h hb.ok) (lf_all h hm) fun x hx => ?_
  rw [get_all hx h hb.ok, get_all hx h hm, runV_bf _ hb.srt, get_ball hx _ bf_nil hm]
  rfl
theorem all_cut (l : List Ent) (ms : List Msg) (k : Nat) : lfAll (lfAll l (ms.take k)) (ms.drop k) = lfAll l ms := by
  unfold lfAll
  rw [← List.foldl_append, List.take_append_drop]
end Go.Proofs.Ytigbkhjcboecjaa

namespace Go.Proofs.Ytigbkhjcboecjaa
open Go Go.RowKit
set_option linter.unusedVariables false
set_option linter.unusedSimpArgs false

theorem all_two {x : List Ent} (hx : Lf x) {l m : List Msg} (hl : Bf l) (hm : ∀ y ∈ m, y.ok = true) : lfAll x (bfAll l m) = lfAll (lfAll x l) m := by
  have hb := bf_all hl hm
  refine lf_ext (lf_all hx hb.ok) (lf_all (lf_all hx hl.ok) hm) fun k hk => ?_
  rw [get_all hk hx hb.ok, get_all hk (lf_all hx hl.ok) hm, get_all hk hx hl.ok, runV_bf _ hb.srt, get_ball hk _ hl hm, runV_bf _ hl.srt]
end Go.Proofs.Ytigbkhjcboecjaa

namespace Go.Proofs.Ytigbkhjcboecjaa
open Go Go.RowKit
set_option linter.unusedVariables false
set_option linter.unusedSimpArgs false

def lfHit (k : Key) (l : List Ent) : Bool := match l[lfAt k l]? with
  | some e => decide (e.key = k)
  | none => false
theorem lfHit_at {k : Key} {l : List Ent} (hi : lfAt k l < l.length) : lfHit k l = decide (l[lfAt k l].key = k) := by
  unfold lfHit; rw [List.getElem?_eq_getElem hi]
theorem lfHit_end {k : Key} {l : List Ent} (hi : ¬ lfAt k l < l.length) : lfHit k l = false := by
  unfold lfHit; rw [List.getElem?_eq_none (by omega)]
def opL (o : Option Vl) : List AV := [(opA o).1.av, boolA (opA o).2]
attribute [local irreducible] OpOK AWops AW CondB Go2 AFn thenA inBlockA noGotoA orderOk wantedA
set_option maxRecDepth 100000 in
set_option maxHeartbeats 4000000 in
theorem a_ref07find (l : List Ent) (k : Key) (h : Srt l) (hl : l.length ≤ 1000000000) : AFn Try.prog 65 [entsA l, k.av] (.tup [(opA (lfGet k l)).1.av, boolA (opA (lfGet k l)).2]) := by
  refine AFn_intro Try.func65 rfl Try.ntmps65 rfl (by simp) [_, _] rfl fun E hE => ?_
  repeat (first | (first | refine Wend _ ?_ | refine AW_seq ?_ | refine AW_reg ?_ | refine AW_drw mixed ?_ | refine AW_block ?_ | refine AW_scope ?_ | refine thenA_n ?_ | refine blockA_n ?_ | refine blockA_h ?_ | refine scopeA_n ?_ | refine thenA_r ?_ | refine blockA_r ?_ | refine scopeA_r ?_ | refine thenA_e ?_ | refine scopeA_e ?_ | refine blockA_e rfl ?_ | refine AW_exit ?_ | refine AW_ret ?_ | refine AW_skip ?_ | refine AW_c rfl ?_ | with_reducible refine cb_t ?_ | with_reducible refine cb_f ?_ | with_reducible refine cb_yes (by first | assumption | omega) ?_ | with_reducible refine cb_no (by first | assumption | omega) ?_ | refine And.intro (by decide +kernel) ?_) | (first | (apply Wv; (focus (first | exact step_ok rfl rfl | exact o_idx rfl rfl rfl rfl (by first | assumption | omega | decide) | exact o_idx3 rfl rfl rfl rfl (by first | assumption | omega | decide) | exact o_idx2 rfl rfl rfl rfl rfl (by first | assumption | omega | decide) | exact o_idxr rfl rfl rfl rfl rfl rfl | exact o_lenm rfl rfl rfl | exact o_len rfl rfl rfl | exact o_len0 rfl rfl rfl | exact o_lens rfl rfl rfl | exact o_lent rfl rfl | exact o_add1 rfl rfl rfl (by omega) | exact o_addn rfl rfl rfl (by omega) | exact o_add rfl rfl rfl (by omega) | exact o_sub1 rfl rfl rfl (by omega) | exact o_sub rfl rfl rfl (by omega) | exact o_mul rfl rfl rfl (by omega) | exact o_rem rfl rfl rfl (by omega) | exact ok_rem rfl rfl rfl (by decide) rfl | exact o_eqKey rfl rfl rfl | exact o_neKey rfl rfl rfl | exact o_eqVl rfl rfl rfl | exact o_neVl rfl rfl rfl | exact o_eqEnt rfl rfl rfl | exact o_neEnt rfl rfl rfl | exact o_eqMsg rfl rfl rfl | exact o_neMsg rfl rfl rfl | exact o_acall rfl rfl rfl rfl (by assumption) | exact o_minn rfl rfl rfl | exact o_cutl rfl rfl rfl rfl (by omega) | exact o_cuth rfl rfl rfl rfl (by omega) | exact o_cutl3 rfl rfl rfl rfl (by omega) | exact o_cuth3 rfl rfl rfl rfl (by omega) | exact o_cutl2 rfl rfl rfl rfl rfl (by omega) | exact o_cuth2 rfl rfl rfl rfl rfl (by omega) | exact o_cutlh2 rfl rfl rfl rfl rfl rfl rfl (by omega) (by omega) | exact e_bld rfl rfl rfl | exact e_bldk rfl rfl | exact z_bld0 rfl rfl rfl rfl rfl | exact z_bld rfl rfl rfl rfl rfl rfl rfl | exact o_addu rfl rfl rfl | exact z_blda rfl rfl rfl rfl rfl rfl rfl rfl rfl | exact o_idxa rfl rfl rfl rfl rfl rfl | exact o_idxra rfl rfl rfl rfl rfl rfl rfl | exact o_quo2 rfl rfl rfl (by omega) | exact o_quo rfl rfl rfl (by omega))); (focus (first | exact want_n | exact want_g rfl (by with_reducible rfl)))) | (apply Wb; (focus (first | exact o_box rfl rfl rfl rfl | exact o_app rfl rfl rfl rfl rfl (by first | exact o_many rfl | exact o_one _ _ rfl) (by first | omega | (simp; omega) | simp) (by first | omega | (simp; omega) | simp) | exact o_appn rfl rfl rfl rfl rfl (by first | exact o_many rfl | exact o_one _ _ rfl) (by first | omega | (simp; omega) | simp) (by first | omega | (simp; omega) | simp) | exact o_app1 rfl rfl rfl rfl rfl (by first | exact o_many rfl | exact o_one _ _ rfl) (by exact rfl) (by first | omega | (simp; omega) | simp) (by first | omega | (simp; omega) | simp) | exact o_app0 rfl rfl rfl rfl rfl (by first | exact o_many rfl | exact o_one _ _ rfl) (by first | omega | (simp; omega) | simp) (by first | omega | (simp; omega) | simp) | exact o_bsl0 rfl rfl rfl | exact z_bsll rfl rfl rfl rfl rfl rfl rfl rfl rfl | exact z_alloc rfl rfl rfl)); (focus (first | exact want_n | exact want_g rfl (by with_reducible rfl)))) | (apply Ws; (focus (exact ok_store tabT (d := none) rfl rfl rfl rfl rfl rfl rfl rfl rfl rfl)); (focus (first | exact want_n | exact want_g rfl (by with_reducible rfl)))) | (refine Wskip (by first | exact want_f rfl (by with_reducible exact b_nt) | exact want_f rfl (by with_reducible exact b_nf) | exact want_t rfl) rfl ?_) | refine Wgt rfl rfl (by first | assumption | omega | exact rfl) ?_ | refine Wgf rfl rfl (by first | assumption | omega | exact rfl) ?_ | (refine Wgb rfl rfl (by with_reducible assumption) ?_) | (refine cb_is _ (by assumption) ?_)))
  refine AW_loopI (fun j : Nat => ⟨[(0, entsA l), (3, .ptr 3 0 []), (4, .ptr 4 0 []), (6, intA j)], [(3, .var k.av), (4, .var Vl.zero.av)]⟩) (fun j => j ≤ l.length ∧ ∀ i (hi : i < l.length), i < j → l[i].key ≠ k) (fun j => l.length - j) 0 ⟨Nat.zero_le _, fun i _ h => by omega⟩ (by (refine Go2.sub ⟨?_, ?_⟩ <;> repeat' (first | exact True.intro | rfl | apply And.intro))) (fun j hj => ?_)
  obtain ⟨j1, j2⟩ := hj
  by_cases c : j < l.length
  · by_cases q : l[j].key = k
    · rw [get_hit h c q]
      repeat (first | (first | refine Wend _ ?_ | refine AW_seq ?_ | refine AW_reg ?_ | refine AW_drw mixed ?_ | refine AW_block ?_ | refine AW_scope ?_ | refine thenA_n ?_ | refine blockA_n ?_ | refine blockA_h ?_ | refine scopeA_n ?_ | refine thenA_r ?_ | refine blockA_r ?_ | refine scopeA_r ?_ | refine thenA_e ?_ | refine scopeA_e ?_ | refine blockA_e rfl ?_ | refine AW_exit ?_ | refine AW_ret ?_ | refine AW_skip ?_ | refine AW_c rfl ?_ | with_reducible refine cb_t ?_ | with_reducible refine cb_f ?_ | with_reducible refine cb_yes (by first | assumption | omega) ?_ | with_reducible refine cb_no (by first | assumption | omega) ?_ | refine And.intro (by decide +kernel) ?_) | (first | (apply Wv; (focus (first | exact step_ok rfl rfl | exact o_idx rfl rfl rfl rfl (by first | assumption | omega | decide) | exact o_idx3 rfl rfl rfl rfl (by first | assumption | omega | decide) | exact o_idx2 rfl rfl rfl rfl rfl (by first | assumption | omega | decide) | exact o_idxr rfl rfl rfl rfl rfl rfl | exact o_lenm rfl rfl rfl | exact o_len rfl rfl rfl | exact o_len0 rfl rfl rfl | exact o_lens rfl rfl rfl | exact o_lent rfl rfl | exact o_add1 rfl rfl rfl (by omega) | exact o_addn rfl rfl rfl (by omega) | exact o_add rfl rfl rfl (by omega) | exact o_sub1 rfl rfl rfl (by omega) | exact o_sub rfl rfl rfl (by omega) | exact o_mul rfl rfl rfl (by omega) | exact o_rem rfl rfl rfl (by omega) | exact ok_rem rfl rfl rfl (by decide) rfl | exact o_eqKey rfl rfl rfl | exact o_neKey rfl rfl rfl | exact o_eqVl rfl rfl rfl | exact o_neVl rfl rfl rfl | exact o_eqEnt rfl rfl rfl | exact o_neEnt rfl rfl rfl | exact o_eqMsg rfl rfl rfl | exact o_neMsg rfl rfl rfl | exact o_acall rfl rfl rfl rfl (by assumption) | exact o_minn rfl rfl rfl | exact o_cutl rfl rfl rfl rfl (by omega) | exact o_cuth rfl rfl rfl rfl (by omega) | exact o_cutl3 rfl rfl rfl rfl (by omega) | exact o_cuth3 rfl rfl rfl rfl (by omega) | exact o_cutl2 rfl rfl rfl rfl rfl (by omega) | exact o_cuth2 rfl rfl rfl rfl rfl (by omega) | exact o_cutlh2 rfl rfl rfl rfl rfl rfl rfl (by omega) (by omega) | exact e_bld rfl rfl rfl | exact e_bldk rfl rfl | exact z_bld0 rfl rfl rfl rfl rfl | exact z_bld rfl rfl rfl rfl rfl rfl rfl | exact o_addu rfl rfl rfl | exact z_blda rfl rfl rfl rfl rfl rfl rfl rfl rfl | exact o_idxa rfl rfl rfl rfl rfl rfl | exact o_idxra rfl rfl rfl rfl rfl rfl rfl | exact o_quo2 rfl rfl rfl (by omega) | exact o_quo rfl rfl rfl (by omega))); (focus (first | exact want_n | exact want_g rfl (by with_reducible rfl)))) | (apply Wb; (focus (first | exact o_box rfl rfl rfl rfl | exact o_app rfl rfl rfl rfl rfl (by first | exact o_many rfl | exact o_one _ _ rfl) (by first | omega | (simp; omega) | simp) (by first | omega | (simp; omega) | simp) | exact o_appn rfl rfl rfl rfl rfl (by first | exact o_many rfl | exact o_one _ _ rfl) (by first | omega | (simp; omega) | simp) (by first | omega | (simp; omega) | simp) | exact o_app1 rfl rfl rfl rfl rfl (by first | exact o_many rfl | exact o_one _ _ rfl) (by exact rfl) (by first | omega | (simp; omega) | simp) (by first | omega | (simp; omega) | simp) | exact o_app0 rfl rfl rfl rfl rfl (by first | exact o_many rfl | exact o_one _ _ rfl) (by first | omega | (simp; omega) | simp) (by first | omega | (simp; omega) | simp) | exact o_bsl0 rfl rfl rfl | exact z_bsll rfl rfl rfl rfl rfl rfl rfl rfl rfl | exact z_alloc rfl rfl rfl)); (focus (first | exact want_n | exact want_g rfl (by with_reducible rfl)))) | (apply Ws; (focus (exact ok_store tabT (d := none) rfl rfl rfl rfl rfl rfl rfl rfl rfl rfl)); (focus (first | exact want_n | exact want_g rfl (by with_reducible rfl)))) | (refine Wskip (by first | exact want_f rfl (by with_reducible exact b_nt) | exact want_f rfl (by with_reducible exact b_nf) | exact want_t rfl) rfl ?_) | refine Wgt rfl rfl (by first | assumption | omega | exact rfl) ?_ | refine Wgf rfl rfl (by first | assumption | omega | exact rfl) ?_ | (refine Wgb rfl rfl (by with_reducible assumption) ?_) | (refine cb_is _ (by assumption) ?_)))
      exact fin ⟨res_var rfl rfl rfl rfl, res_of rfl rfl rfl, trivial⟩
    · repeat (first | (first | refine Wend _ ?_ | refine AW_seq ?_ | refine AW_reg ?_ | refine AW_drw mixed ?_ | refine AW_block ?_ | refine AW_scope ?_ | refine thenA_n ?_ | refine blockA_n ?_ | refine blockA_h ?_ | refine scopeA_n ?_ | refine thenA_r ?_ | refine blockA_r ?_ | refine scopeA_r ?_ | refine thenA_e ?_ | refine scopeA_e ?_ | refine blockA_e rfl ?_ | refine AW_exit ?_ | refine AW_ret ?_ | refine AW_skip ?_ | refine AW_c rfl ?_ | with_reducible refine cb_t ?_ | with_reducible refine cb_f ?_ | with_reducible refine cb_yes (by first | assumption | omega) ?_ | with_reducible refine cb_no (by first | assumption | omega) ?_ | refine And.intro (by decide +kernel) ?_) | (first | (apply Wv; (focus (first | exact step_ok rfl rfl | exact o_idx rfl rfl rfl rfl (by first | assumption | omega | decide) | exact o_idx3 rfl rfl rfl rfl (by first | assumption | omega | decide) | exact o_idx2 rfl rfl rfl rfl rfl (by first | assumption | omega | decide) | exact o_idxr rfl rfl rfl rfl rfl rfl | exact o_lenm rfl rfl rfl | exact o_len rfl rfl rfl | exact o_len0 rfl rfl rfl | exact o_lens rfl rfl rfl | exact o_lent rfl rfl | exact o_add1 rfl rfl rfl (by omega) | exact o_addn rfl rfl rfl (by omega) | exact o_add rfl rfl rfl (by omega) | exact o_sub1 rfl rfl rfl (by omega) | exact o_sub rfl rfl rfl (by omega) | exact o_mul rfl rfl rfl (by omega) | exact o_rem rfl rfl rfl (by omega) | exact ok_rem rfl rfl rfl (by decide) rfl | exact o_eqKey rfl rfl rfl | exact o_neKey rfl rfl rfl | exact o_eqVl rfl rfl rfl | exact o_neVl rfl rfl rfl | exact o_eqEnt rfl rfl rfl | exact o_neEnt rfl rfl rfl | exact o_eqMsg rfl rfl rfl | exact o_neMsg rfl rfl rfl | exact o_acall rfl rfl rfl rfl (by assumption) | exact o_minn rfl rfl rfl | exact o_cutl rfl rfl rfl rfl (by omega) | exact o_cuth rfl rfl rfl rfl (by omega) | exact o_cutl3 rfl rfl rfl rfl (by omega) | exact o_cuth3 rfl rfl rfl rfl (by omega) | exact o_cutl2 rfl rfl rfl rfl rfl (by omega) | exact o_cuth2 rfl rfl rfl rfl rfl (by omega) | exact o_cutlh2 rfl rfl rfl rfl rfl rfl rfl (by omega) (by omega) | exact e_bld rfl rfl rfl | exact e_bldk rfl rfl | exact z_bld0 rfl rfl rfl rfl rfl | exact z_bld rfl rfl rfl rfl rfl rfl rfl | exact o_addu rfl rfl rfl | exact z_blda rfl rfl rfl rfl rfl rfl rfl rfl rfl | exact o_idxa rfl rfl rfl rfl rfl rfl | exact o_idxra rfl rfl rfl rfl rfl rfl rfl | exact o_quo2 rfl rfl rfl (by omega) | exact o_quo rfl rfl rfl (by omega))); (focus (first | exact want_n | exact want_g rfl (by with_reducible rfl)))) | (apply Wb; (focus (first | exact o_box rfl rfl rfl rfl | exact o_app rfl rfl rfl rfl rfl (by first | exact o_many rfl | exact o_one _ _ rfl) (by first | omega | (simp; omega) | simp) (by first | omega | (simp; omega) | simp) | exact o_appn rfl rfl rfl rfl rfl (by first | exact o_many rfl | exact o_one _ _ rfl) (by first | omega | (simp; omega) | simp) (by first | omega | (simp; omega) | simp) | exact o_app1 rfl rfl rfl rfl rfl (by first | exact o_many rfl | exact o_one _ _ rfl) (by exact rfl) (by first | omega | (simp; omega) | simp) (by first | omega | (simp; omega) | simp) | exact o_app0 rfl rfl rfl rfl rfl (by first | exact o_many rfl | exact o_one _ _ rfl) (by first | omega | (simp; omega) | simp) (by first | omega | (simp; omega) | simp) | exact o_bsl0 rfl rfl rfl | exact z_bsll rfl rfl rfl rfl rfl rfl rfl rfl rfl | exact z_alloc rfl rfl rfl)); (focus (first | exact want_n | exact want_g rfl (by with_reducible rfl)))) | (apply Ws; (focus (exact ok_store tabT (d := none) rfl rfl rfl rfl rfl rfl rfl rfl rfl rfl)); (focus (first | exact want_n | exact want_g rfl (by with_reducible rfl)))) | (refine Wskip (by first | exact want_f rfl (by with_reducible exact b_nt) | exact want_f rfl (by with_reducible exact b_nf) | exact want_t rfl) rfl ?_) | refine Wgt rfl rfl (by first | assumption | omega | exact rfl) ?_ | refine Wgf rfl rfl (by first | assumption | omega | exact rfl) ?_ | (refine Wgb rfl rfl (by with_reducible assumption) ?_) | (refine cb_is _ (by assumption) ?_)))
      refine ⟨j + 1, ⟨c, fun i hi hij => ?_⟩, by omega, ?_⟩
      · by_cases e : i = j
        · subst e; exact q
        · exact j2 i hi (by omega)
      · (refine Go2.sub ⟨?_, ?_⟩ <;> repeat' (first | exact True.intro | rfl | apply And.intro))
  · rw [get_none (fun i hi => j2 i hi (by omega))]
    repeat (first | (first | refine Wend _ ?_ | refine AW_seq ?_ | refine AW_reg ?_ | refine AW_drw mixed ?_ | refine AW_block ?_ | refine AW_scope ?_ | refine thenA_n ?_ | refine blockA_n ?_ | refine blockA_h ?_ | refine scopeA_n ?_ | refine thenA_r ?_ | refine blockA_r ?_ | refine scopeA_r ?_ | refine thenA_e ?_ | refine scopeA_e ?_ | refine blockA_e rfl ?_ | refine AW_exit ?_ | refine AW_ret ?_ | refine AW_skip ?_ | refine AW_c rfl ?_ | with_reducible refine cb_t ?_ | with_reducible refine cb_f ?_ | with_reducible refine cb_yes (by first | assumption | omega) ?_ | with_reducible refine cb_no (by first | assumption | omega) ?_ | refine And.intro (by decide +kernel) ?_) | (first | (apply Wv; (focus (first | exact step_ok rfl rfl | exact o_idx rfl rfl rfl rfl (by first | assumption | omega | decide) | exact o_idx3 rfl rfl rfl rfl (by first | assumption | omega | decide) | exact o_idx2 rfl rfl rfl rfl rfl (by first | assumption | omega | decide) | exact o_idxr rfl rfl rfl rfl rfl rfl | exact o_lenm rfl rfl rfl | exact o_len rfl rfl rfl | exact o_len0 rfl rfl rfl | exact o_lens rfl rfl rfl | exact o_lent rfl rfl | exact o_add1 rfl rfl rfl (by omega) | exact o_addn rfl rfl rfl (by omega) | exact o_add rfl rfl rfl (by omega) | exact o_sub1 rfl rfl rfl (by omega) | exact o_sub rfl rfl rfl (by omega) | exact o_mul rfl rfl rfl (by omega) | exact o_rem rfl rfl rfl (by omega) | exact ok_rem rfl rfl rfl (by decide) rfl | exact o_eqKey rfl rfl rfl | exact o_neKey rfl rfl rfl | exact o_eqVl rfl rfl rfl | exact o_neVl rfl rfl rfl | exact o_eqEnt rfl rfl rfl | exact o_neEnt rfl rfl rfl | exact o_eqMsg rfl rfl rfl | exact o_neMsg rfl rfl rfl | exact o_acall rfl rfl rfl rfl (by assumption) | exact o_minn rfl rfl rfl | exact o_cutl rfl rfl rfl rfl (by omega) | exact o_cuth rfl rfl rfl rfl (by omega) | exact o_cutl3 rfl rfl rfl rfl (by omega) | exact o_cuth3 rfl rfl rfl rfl (by omega) | exact o_cutl2 rfl rfl rfl rfl rfl (by omega) | exact o_cuth2 rfl rfl rfl rfl rfl (by omega) | exact o_cutlh2 rfl rfl rfl rfl rfl rfl rfl (by omega) (by omega) | exact e_bld rfl rfl rfl | exact e_bldk rfl rfl | exact z_bld0 rfl rfl rfl rfl rfl | exact z_bld rfl rfl rfl rfl rfl rfl rfl | exact o_addu rfl rfl rfl | exact z_blda rfl rfl rfl rfl rfl rfl rfl rfl rfl | exact o_idxa rfl rfl rfl rfl rfl rfl | exact o_idxra rfl rfl rfl rfl rfl rfl rfl | exact o_quo2 rfl rfl rfl (by omega) | exact o_quo rfl rfl rfl (by omega))); (focus (first | exact want_n | exact want_g rfl (by with_reducible rfl)))) | (apply Wb; (focus (first | exact o_box rfl rfl rfl rfl | exact o_app rfl rfl rfl rfl rfl (by first | exact o_many rfl | exact o_one _ _ rfl) (by first | omega | (simp; omega) | simp) (by first | omega | (simp; omega) | simp) | exact o_appn rfl rfl rfl rfl rfl (by first | exact o_many rfl | exact o_one _ _ rfl) (by first | omega | (simp; omega) | simp) (by first | omega | (simp; omega) | simp) | exact o_app1 rfl rfl rfl rfl rfl (by first | exact o_many rfl | exact o_one _ _ rfl) (by exact rfl) (by first | omega | (simp; omega) | simp) (by first | omega | (simp; omega) | simp) | exact o_app0 rfl rfl rfl rfl rfl (by first | exact o_many rfl | exact o_one _ _ rfl) (by first | omega | (simp; omega) | simp) (by first | omega | (simp; omega) | simp) | exact o_bsl0 rfl rfl rfl | exact z_bsll rfl rfl rfl rfl rfl rfl rfl rfl rfl | exact z_alloc rfl rfl rfl)); (focus (first | exact want_n | exact want_g rfl (by with_reducible rfl)))) | (apply Ws; (focus (exact ok_store tabT (d := none) rfl rfl rfl rfl rfl rfl rfl rfl rfl rfl)); (focus (first | exact want_n | exact want_g rfl (by with_reducible rfl)))) | (refine Wskip (by first | exact want_f rfl (by with_reducible exact b_nt) | exact want_f rfl (by with_reducible exact b_nf) | exact want_t rfl) rfl ?_) | refine Wgt rfl rfl (by first | assumption | omega | exact rfl) ?_ | refine Wgf rfl rfl (by first | assumption | omega | exact rfl) ?_ | (refine Wgb rfl rfl (by with_reducible assumption) ?_) | (refine cb_is _ (by assumption) ?_)))
    exact fin ⟨res_var rfl rfl rfl rfl, res_of rfl rfl rfl, trivial⟩
end Go.Proofs.Ytigbkhjcboecjaa

namespace Go.Proofs.Ytigbkhjcboecjaa
open Go Go.RowKit
set_option linter.unusedVariables false
set_option linter.unusedSimpArgs false

/-- what the document's loop has put out behind j entries -/
def outP (l : List Ent) (p q : Nat) (new : List Ent) (j : Nat) : List Ent := l.take (min j p) ++ ((if p < j then new else []) ++ (l.take j).drop q)
theorem outP_zero (l : List Ent) (p q : Nat) (new : List Ent) : outP l p q new 0 = [] := by simp [outP]
theorem outP_lo {l : List Ent} {p q : Nat} {new : List Ent} {j : Nat} (hp : p ≤ q) (hj : j < p) (hl : j < l.length) : outP l p q new (j + 1) = outP l p q new j ++ [l[j]] := by
  unfold outP
  rw [if_neg (by omega), if_neg (by omega), Nat.min_eq_left (by omega), Nat.min_eq_left (by omega), List.drop_eq_nil_of_le (by simp; omega), List.drop_eq_nil_of_le (by simp; omega)]
  simp only [List.append_nil]
  exact (List.take_append_getElem hl).symm
theorem drop_take_snoc {l : List Ent} {q j : Nat} (hq : q ≤ j) (hl : j < l.length) : (l.take (j + 1)).drop q = (l.take j).drop q ++ [l[j]] := by
  rw [← List.take_append_getElem hl, List.drop_append_of_le_length (by simp; omega)]
theorem outP_no {l : List Ent} {p : Nat} {new : List Ent} (hl : p < l.length) : outP l p p new (p + 1) = (outP l p p new p ++ new) ++ [l[p]] := by
  unfold outP
  rw [if_pos (by omega), if_neg (by omega), Nat.min_eq_right (by omega), Nat.min_self, drop_take_snoc (Nat.le_refl _) hl, List.drop_eq_nil_of_le (by simp; omega)]
  simp
theorem outP_hit {l : List Ent} {p : Nat} {new : List Ent} (hl : p < l.length) : outP l p (p + 1) new (p + 1) = outP l p (p + 1) new p ++ new := by
  unfold outP
  rw [if_pos (by omega), if_neg (by omega), Nat.min_eq_right (by omega), Nat.min_self, List.drop_eq_nil_of_le (by simp; omega), List.drop_eq_nil_of_le (by simp; omega)]
  simp
theorem outP_hi {l : List Ent} {p q : Nat} {new : List Ent} {j : Nat} (hq : q ≤ j) (hj : p < j) (hl : j < l.length) : outP l p q new (j + 1) = outP l p q new j ++ [l[j]] := by
  unfold outP
  rw [if_pos (by omega), if_pos (by omega), Nat.min_eq_right (by omega), Nat.min_eq_right (by omega), drop_take_snoc hq hl]
  simp
theorem outP_end {l : List Ent} {p q : Nat} {new : List Ent} (hp : p < l.length) : outP l p q new l.length = l.take p ++ (new ++ l.drop q) := by
  unfold outP
  rw [if_pos hp, Nat.min_eq_right (by omega), List.take_length]
theorem outP_end' {l : List Ent} {p q : Nat} {new : List Ent} (hp : p = l.length) (hq : p ≤ q) : outP l p q new l.length ++ new = l.take p ++ (new ++ l.drop q) := by
  unfold outP
  rw [if_neg (by omega), Nat.min_eq_left (by omega), List.take_length, List.drop_eq_nil_of_le (by omega)]
  subst hp
  simp
theorem outP_len {l : List Ent} {p q : Nat} {new : List Ent} (j : Nat) (hn : new.length ≤ 1) : (outP l p q new j).length ≤ 2 * l.length + 1 := by
  unfold outP
  simp only [List.length_append, List.length_take, List.length_drop]
  split <;> simp <;> omega
attribute [local irreducible] OpOK AWops AW CondB Go2 AFn thenA inBlockA noGotoA orderOk wantedA
set_option maxRecDepth 100000 in
set_option maxHeartbeats 8000000 in
theorem a_ref07put (l : List Ent) (m : Msg) (h : Lf l) (hm : m.key.ok = true) (hl : l.length ≤ 1000000000) : AFn Try.prog 51 [entsA l, m.av] (entsA (lfPut l m)) := by
  refine AFn_intro Try.func51 rfl Try.ntmps51 rfl (by simp) [_] rfl fun E hE => ?_
  have c1 := a_ref07find l m.key h.srt hl
  have c2 := a_refapply (opA (lfGet m.key l)).1 (opA (lfGet m.key l)).2 m
  rw [applyM_ap] at c2
  unfold lfPut
  have d1 := acall Try.func65 (c1) (by decide +kernel) (by decide +kernel)
  have d2 := acall Try.func66 (c2) (by decide +kernel) (by decide +kernel)
  generalize ap m (lfGet m.key l) = r at d2 ⊢
  have hnt : (!true) = false := rfl
  have hnf : (!false) = true := rfl
  have hple := lfAt_le m.key l
  have hnl : (newE m.key r).length ≤ 1 := by unfold newE; cases r <;> simp
  obtain ⟨q, hq, hset, hcase⟩ : ∃ q, lfAt m.key l ≤ q ∧ lfSet l m.key r = l.take (lfAt m.key l) ++ (newE m.key r ++ l.drop q) ∧ ∀ (hi : lfAt m.key l < l.length), (q = lfAt m.key l + 1 ∧ refCmp l[lfAt m.key l].key m.key = 0) ∨ (q = lfAt m.key l ∧ 0 < refCmp l[lfAt m.key l].key m.key) := by
    by_cases e : ∃ hi : lfAt m.key l < l.length, l[lfAt m.key l].key = m.key
    · obtain ⟨hi, e⟩ := e
      exact ⟨_, Nat.le_succ _, set_hit h.srt r hi e, fun _ => .inl ⟨rfl, by rw [refCmp_rank (h.ok _ (List.getElem_mem hi)).1 hm, e, sgn_same]⟩⟩
    · refine ⟨_, Nat.le_refl _, set_no h hm r (fun hi e' => e ⟨hi, e'⟩), fun hi => .inr ⟨rfl, ?_⟩⟩
      have ho := (h.ok _ (List.getElem_mem hi)).1
      rw [refCmp_rank ho hm, sgn_pos]
      have h1 := (lfAt_iff (k := m.key) h.srt _ hi)
      have h2 : l[lfAt m.key l].key.rank ≠ m.key.rank := fun e' => e ⟨hi, (rank_inj ho hm).1 e'⟩
      omega
  rw [hset]
  have hlo : ∀ j (hj : j < l.length), j < lfAt m.key l → refCmp l[j].key m.key < 0 := fun j hj c => by
    rw [refCmp_rank (h.ok _ (List.getElem_mem hj)).1 hm, sgn_neg]; exact (lfAt_iff h.srt j hj).1 c
  have hhi : ∀ j (hj : j < l.length), lfAt m.key l < j → 0 < refCmp l[j].key m.key := fun j hj c => by
    rw [refCmp_rank (h.ok _ (List.getElem_mem hj)).1 hm, sgn_pos]
    have h1 := h.srt.lt (by omega) hj c
    have h2 := lfAt_iff (k := m.key) h.srt (lfAt m.key l) (by omega)
    omega
  generalize lfAt m.key l = p at hq hcase hlo hhi hple ⊢
  repeat (first | (first | refine Wend _ ?_ | refine AW_seq ?_ | refine AW_reg ?_ | refine AW_drw mixed ?_ | refine AW_block ?_ | refine AW_scope ?_ | refine thenA_n ?_ | refine blockA_n ?_ | refine blockA_h ?_ | refine scopeA_n ?_ | refine thenA_r ?_ | refine blockA_r ?_ | refine scopeA_r ?_ | refine thenA_e ?_ | refine scopeA_e ?_ | refine blockA_e rfl ?_ | refine AW_exit ?_ | refine AW_ret ?_ | refine AW_skip ?_ | refine AW_c rfl ?_ | with_reducible refine cb_t ?_ | with_reducible refine cb_f ?_ | with_reducible refine cb_yes (by first | assumption | omega) ?_ | with_reducible refine cb_no (by first | assumption | omega) ?_ | refine And.intro (by decide +kernel) ?_) | (first | (apply Wv; (focus (first | exact step_ok rfl rfl | exact o_idx rfl rfl rfl rfl (by first | assumption | omega | decide) | exact o_idx3 rfl rfl rfl rfl (by first | assumption | omega | decide) | exact o_idxr rfl rfl rfl rfl rfl rfl | exact o_lenm rfl rfl rfl | exact o_len rfl rfl rfl | exact o_len0 rfl rfl rfl | exact o_add1 rfl rfl rfl (by omega) | exact o_add rfl rfl rfl (by omega) | exact o_sub1 rfl rfl rfl (by omega) | exact o_sub rfl rfl rfl (by omega) | exact o_acall rfl rfl rfl rfl (by assumption) | exact e_bld rfl rfl rfl)); (focus (first | exact want_n | exact want_g rfl (by with_reducible rfl)))) | (apply Wb; (focus (first | exact o_box rfl rfl rfl rfl | exact o_app rfl rfl rfl rfl rfl (by first | exact o_many rfl | exact o_one _ _ rfl) (by first | omega | (simp; omega) | simp) (by first | omega | (simp; omega) | simp) | exact o_appn rfl rfl rfl rfl rfl (by first | exact o_many rfl | exact o_one _ _ rfl) (by first | omega | (simp; omega) | simp) (by first | omega | (simp; omega) | simp) | exact o_app1 rfl rfl rfl rfl rfl (by first | exact o_many rfl | exact o_one _ _ rfl) (by exact rfl) (by first | omega | (simp; omega) | simp) (by first | omega | (simp; omega) | simp) | exact o_app0 rfl rfl rfl rfl rfl (by first | exact o_many rfl | exact o_one _ _ rfl) (by first | omega | (simp; omega) | simp) (by first | omega | (simp; omega) | simp) | exact o_bsl0 rfl rfl rfl | exact z_bsll rfl rfl rfl rfl rfl rfl rfl rfl rfl | exact z_alloc rfl rfl rfl)); (focus (first | exact want_n | exact want_g rfl (by with_reducible rfl)))) | (apply Ws; (focus (exact ok_store tabT (d := none) rfl rfl rfl rfl rfl rfl rfl rfl rfl rfl)); (focus (first | exact want_n | exact want_g rfl (by with_reducible rfl)))) | (refine Wskip (by first | exact want_f rfl (by with_reducible exact b_nt) | exact want_f rfl (by with_reducible exact b_nf) | exact want_t rfl) rfl ?_) | refine Wgt rfl rfl (by first | assumption | omega | exact rfl) ?_ | refine Wgf rfl rfl (by first | assumption | omega | exact rfl) ?_ | (refine Wgb rfl rfl (by with_reducible assumption) ?_) | (refine cb_is _ (by assumption) ?_)))
  refine AW_go (Go2.token 9 9 25 75 rfl rfl) ?_
  refine AW_loopI (fun j : Nat => ⟨[(0, entsA l), (3, .ptr 3 0 []), (7, .ptr 7 0 []), (8, boolA (opA r).2), (9, .sl (some 9) 26 ((outP l p q (newE m.key r) j).map Ent.av)), (10, boolA (decide (p < j))), (11, intA j)], [(3, .var m.av), (7, .var (opA r).1.av), (9, .tail 75 26 (outP l p q (newE m.key r) j).length)]⟩) (fun j => j ≤ l.length) (fun j => l.length - j) 0 (Nat.zero_le _) (by rw [outP_zero, decide_eq_false (Nat.not_lt_zero p)]; (refine Go2.sub ⟨?_, ?_⟩ <;> repeat' (first | exact True.intro | rfl | apply And.intro))) (fun j hj => ?_)
  have hol := outP_len (l := l) (p := p) (q := q) (new := newE m.key r) j hnl
  by_cases c : j < l.length
  · have d3 := acall Try.func33 (a_refcmp l[j].key m.key) (by decide +kernel) (by decide +kernel)
    rcases Nat.lt_trichotomy j p with c1 | c1 | c1
    · have hc := hlo j c c1
      have hs := outP_lo (new := newE m.key r) hq c1 c
      repeat (first | (first | refine Wend _ ?_ | refine AW_seq ?_ | refine AW_reg ?_ | refine AW_drw mixed ?_ | refine AW_block ?_ | refine AW_scope ?_ | refine thenA_n ?_ | refine blockA_n ?_ | refine blockA_h ?_ | refine scopeA_n ?_ | refine thenA_r ?_ | refine blockA_r ?_ | refine scopeA_r ?_ | refine thenA_e ?_ | refine scopeA_e ?_ | refine blockA_e rfl ?_ | refine AW_exit ?_ | refine AW_ret ?_ | refine AW_skip ?_ | refine AW_c rfl ?_ | with_reducible refine cb_t ?_ | with_reducible refine cb_f ?_ | with_reducible refine cb_yes (by first | assumption | omega) ?_ | with_reducible refine cb_no (by first | assumption | omega) ?_ | refine And.intro (by decide +kernel) ?_) | (first | (apply Wv; (focus (first | exact step_ok rfl rfl | exact o_idx rfl rfl rfl rfl (by first | assumption | omega | decide) | exact o_idx3 rfl rfl rfl rfl (by first | assumption | omega | decide) | exact o_idxr rfl rfl rfl rfl rfl rfl | exact o_lenm rfl rfl rfl | exact o_len rfl rfl rfl | exact o_len0 rfl rfl rfl | exact o_add1 rfl rfl rfl (by omega) | exact o_add rfl rfl rfl (by omega) | exact o_sub1 rfl rfl rfl (by omega) | exact o_sub rfl rfl rfl (by omega) | exact o_acall rfl rfl rfl rfl (by assumption) | exact e_bld rfl rfl rfl)); (focus (first | exact want_n | exact want_g rfl (by with_reducible rfl)))) | (apply Wb; (focus (first | exact o_box rfl rfl rfl rfl | exact o_app rfl rfl rfl rfl rfl (by first | exact o_many rfl | exact o_one _ _ rfl) (by first | omega | (simp; omega) | simp) (by first | omega | (simp; omega) | simp) | exact o_appn rfl rfl rfl rfl rfl (by first | exact o_many rfl | exact o_one _ _ rfl) (by first | omega | (simp; omega) | simp) (by first | omega | (simp; omega) | simp) | exact o_app1 rfl rfl rfl rfl rfl (by first | exact o_many rfl | exact o_one _ _ rfl) (by exact rfl) (by first | omega | (simp; omega) | simp) (by first | omega | (simp; omega) | simp) | exact o_app0 rfl rfl rfl rfl rfl (by first | exact o_many rfl | exact o_one _ _ rfl) (by first | omega | (simp; omega) | simp) (by first | omega | (simp; omega) | simp) | exact o_bsl0 rfl rfl rfl | exact z_bsll rfl rfl rfl rfl rfl rfl rfl rfl rfl | exact z_alloc rfl rfl rfl)); (focus (first | exact want_n | exact want_g rfl (by with_reducible rfl)))) | (apply Ws; (focus (exact ok_store tabT (d := none) rfl rfl rfl rfl rfl rfl rfl rfl rfl rfl)); (focus (first | exact want_n | exact want_g rfl (by with_reducible rfl)))) | (refine Wskip (by first | exact want_f rfl (by with_reducible exact b_nt) | exact want_f rfl (by with_reducible exact b_nf) | exact want_t rfl) rfl ?_) | refine Wgt rfl rfl (by first | assumption | omega | exact rfl) ?_ | refine Wgf rfl rfl (by first | assumption | omega | exact rfl) ?_ | (refine Wgb rfl rfl (by with_reducible assumption) ?_) | (refine cb_is _ (by assumption) ?_)))
      refine ⟨j + 1, c, by omega, ?_⟩
      rw [hs, show decide (p < j + 1) = decide (p < j) from by rw [decide_eq_false (by omega), decide_eq_false (by omega)]]
      (refine Go2.sub ⟨?_, ?_⟩ <;> repeat' (first | exact True.intro | rfl | apply And.intro))
    · subst c1
      have hb : (!decide (j < j)) = true := by simp
      rcases hcase c with ⟨hqe, hc⟩ | ⟨hqe, hc⟩
      · subst hqe
        have hs := outP_hit (new := newE m.key r) c
        cases r with
        | none =>
          repeat (first | (first | refine Wend _ ?_ | refine AW_seq ?_ | refine AW_reg ?_ | refine AW_drw mixed ?_ | refine AW_block ?_ | refine AW_scope ?_ | refine thenA_n ?_ | refine blockA_n ?_ | refine blockA_h ?_ | refine scopeA_n ?_ | refine thenA_r ?_ | refine blockA_r ?_ | refine scopeA_r ?_ | refine thenA_e ?_ | refine scopeA_e ?_ | refine blockA_e rfl ?_ | refine AW_exit ?_ | refine AW_ret ?_ | refine AW_skip ?_ | refine AW_c rfl ?_ | with_reducible refine cb_t ?_ | with_reducible refine cb_f ?_ | with_reducible refine cb_yes (by first | assumption | omega) ?_ | with_reducible refine cb_no (by first | assumption | omega) ?_ | refine And.intro (by decide +kernel) ?_) | (first | (apply Wv; (focus (first | exact step_ok rfl rfl | exact o_idx rfl rfl rfl rfl (by first | assumption | omega | decide) | exact o_idx3 rfl rfl rfl rfl (by first | assumption | omega | decide) | exact o_idxr rfl rfl rfl rfl rfl rfl | exact o_lenm rfl rfl rfl | exact o_len rfl rfl rfl | exact o_len0 rfl rfl rfl | exact o_add1 rfl rfl rfl (by omega) | exact o_add rfl rfl rfl (by omega) | exact o_sub1 rfl rfl rfl (by omega) | exact o_sub rfl rfl rfl (by omega) | exact o_acall rfl rfl rfl rfl (by assumption) | exact e_bld rfl rfl rfl)); (focus (first | exact want_n | exact want_g rfl (by with_reducible rfl)))) | (apply Wb; (focus (first | exact o_box rfl rfl rfl rfl | exact o_app rfl rfl rfl rfl rfl (by first | exact o_many rfl | exact o_one _ _ rfl) (by first | omega | (simp; omega) | simp) (by first | omega | (simp; omega) | simp) | exact o_appn rfl rfl rfl rfl rfl (by first | exact o_many rfl | exact o_one _ _ rfl) (by first | omega | (simp; omega) | simp) (by first | omega | (simp; omega) | simp) | exact o_app1 rfl rfl rfl rfl rfl (by first | exact o_many rfl | exact o_one _ _ rfl) (by exact rfl) (by first | omega | (simp; omega) | simp) (by first | omega | (simp; omega) | simp) | exact o_app0 rfl rfl rfl rfl rfl (by first | exact o_many rfl | exact o_one _ _ rfl) (by first | omega | (simp; omega) | simp) (by first | omega | (simp; omega) | simp) | exact o_bsl0 rfl rfl rfl | exact z_bsll rfl rfl rfl rfl rfl rfl rfl rfl rfl | exact z_alloc rfl rfl rfl)); (focus (first | exact want_n | exact want_g rfl (by with_reducible rfl)))) | (apply Ws; (focus (exact ok_store tabT (d := none) rfl rfl rfl rfl rfl rfl rfl rfl rfl rfl)); (focus (first | exact want_n | exact want_g rfl (by with_reducible rfl)))) | (refine Wskip (by first | exact want_f rfl (by with_reducible exact b_nt) | exact want_f rfl (by with_reducible exact b_nf) | exact want_t rfl) rfl ?_) | refine Wgt rfl rfl (by first | assumption | omega | exact rfl) ?_ | refine Wgf rfl rfl (by first | assumption | omega | exact rfl) ?_ | (refine Wgb rfl rfl (by with_reducible assumption) ?_) | (refine cb_is _ (by assumption) ?_)))
          refine ⟨j + 1, c, by omega, ?_⟩
          rw [hs, decide_eq_true (Nat.lt_succ_self j)]
          simp only [newE, List.append_nil]
          (refine Go2.sub ⟨?_, ?_⟩ <;> repeat' (first | exact True.intro | rfl | apply And.intro))
        | some v =>
          repeat (first | (first | refine Wend _ ?_ | refine AW_seq ?_ | refine AW_reg ?_ | refine AW_drw mixed ?_ | refine AW_block ?_ | refine AW_scope ?_ | refine thenA_n ?_ | refine blockA_n ?_ | refine blockA_h ?_ | refine scopeA_n ?_ | refine thenA_r ?_ | refine blockA_r ?_ | refine scopeA_r ?_ | refine thenA_e ?_ | refine scopeA_e ?_ | refine blockA_e rfl ?_ | refine AW_exit ?_ | refine AW_ret ?_ | refine AW_skip ?_ | refine AW_c rfl ?_ | with_reducible refine cb_t ?_ | with_reducible refine cb_f ?_ | with_reducible refine cb_yes (by first | assumption | omega) ?_ | with_reducible refine cb_no (by first | assumption | omega) ?_ | refine And.intro (by decide +kernel) ?_) | (first | (apply Wv; (focus (first | exact step_ok rfl rfl | exact o_idx rfl rfl rfl rfl (by first | assumption | omega | decide) | exact o_idx3 rfl rfl rfl rfl (by first | assumption | omega | decide) | exact o_idxr rfl rfl rfl rfl rfl rfl | exact o_lenm rfl rfl rfl | exact o_len rfl rfl rfl | exact o_len0 rfl rfl rfl | exact o_add1 rfl rfl rfl (by omega) | exact o_add rfl rfl rfl (by omega) | exact o_sub1 rfl rfl rfl (by omega) | exact o_sub rfl rfl rfl (by omega) | exact o_acall rfl rfl rfl rfl (by assumption) | exact e_bld rfl rfl rfl)); (focus (first | exact want_n | exact want_g rfl (by with_reducible rfl)))) | (apply Wb; (focus (first | exact o_box rfl rfl rfl rfl | exact o_app rfl rfl rfl rfl rfl (by first | exact o_many rfl | exact o_one _ _ rfl) (by first | omega | (simp; omega) | simp) (by first | omega | (simp; omega) | simp) | exact o_appn rfl rfl rfl rfl rfl (by first | exact o_many rfl | exact o_one _ _ rfl) (by first | omega | (simp; omega) | simp) (by first | omega | (simp; omega) | simp) | exact o_app1 rfl rfl rfl rfl rfl (by first | exact o_many rfl | exact o_one _ _ rfl) (by exact rfl) (by first | omega | (simp; omega) | simp) (by first | omega | (simp; omega) | simp) | exact o_app0 rfl rfl rfl rfl rfl (by first | exact o_many rfl | exact o_one _ _ rfl) (by first | omega | (simp; omega) | simp) (by first | omega | (simp; omega) | simp) | exact o_bsl0 rfl rfl rfl | exact z_bsll rfl rfl rfl rfl rfl rfl rfl rfl rfl | exact z_alloc rfl rfl rfl)); (focus (first | exact want_n | exact want_g rfl (by with_reducible rfl)))) | (apply Ws; (focus (exact ok_store tabT (d := none) rfl rfl rfl rfl rfl rfl rfl rfl rfl rfl)); (focus (first | exact want_n | exact want_g rfl (by with_reducible rfl)))) | (refine Wskip (by first | exact want_f rfl (by with_reducible exact b_nt) | exact want_f rfl (by with_reducible exact b_nf) | exact want_t rfl) rfl ?_) | refine Wgt rfl rfl (by first | assumption | omega | exact rfl) ?_ | refine Wgf rfl rfl (by first | assumption | omega | exact rfl) ?_ | (refine Wgb rfl rfl (by with_reducible assumption) ?_) | (refine cb_is _ (by assumption) ?_)))
          refine ⟨j + 1, c, by omega, ?_⟩
          rw [hs, decide_eq_true (Nat.lt_succ_self j)]
          (refine Go2.sub ⟨?_, ?_⟩ <;> repeat' (first | exact True.intro | rfl | apply And.intro))
      · obtain rfl : j = q := hqe.symm
        have hs := outP_no (new := newE m.key r) c
        cases r with
        | none =>
          repeat (first | (first | refine Wend _ ?_ | refine AW_seq ?_ | refine AW_reg ?_ | refine AW_drw mixed ?_ | refine AW_block ?_ | refine AW_scope ?_ | refine thenA_n ?_ | refine blockA_n ?_ | refine blockA_h ?_ | refine scopeA_n ?_ | refine thenA_r ?_ | refine blockA_r ?_ | refine scopeA_r ?_ | refine thenA_e ?_ | refine scopeA_e ?_ | refine blockA_e rfl ?_ | refine AW_exit ?_ | refine AW_ret ?_ | refine AW_skip ?_ | refine AW_c rfl ?_ | with_reducible refine cb_t ?_ | with_reducible refine cb_f ?_ | with_reducible refine cb_yes (by first | assumption | omega) ?_ | with_reducible refine cb_no (by first | assumption | omega) ?_ | refine And.intro (by decide +kernel) ?_) | (first | (apply Wv; (focus (first | exact step_ok rfl rfl | exact o_idx rfl rfl rfl rfl (by first | assumption | omega | decide) | exact o_idx3 rfl rfl rfl rfl (by first | assumption | omega | decide) | exact o_idxr rfl rfl rfl rfl rfl rfl | exact o_lenm rfl rfl rfl | exact o_len rfl rfl rfl | exact o_len0 rfl rfl rfl | exact o_add1 rfl rfl rfl (by omega) | exact o_add rfl rfl rfl (by omega) | exact o_sub1 rfl rfl rfl (by omega) | exact o_sub rfl rfl rfl (by omega) | exact o_acall rfl rfl rfl rfl (by assumption) | exact e_bld rfl rfl rfl)); (focus (first | exact want_n | exact want_g rfl (by with_reducible rfl)))) | (apply Wb; (focus (first | exact o_box rfl rfl rfl rfl | exact o_app rfl rfl rfl rfl rfl (by first | exact o_many rfl | exact o_one _ _ rfl) (by first | omega | (simp; omega) | simp) (by first | omega | (simp; omega) | simp) | exact o_appn rfl rfl rfl rfl rfl (by first | exact o_many rfl | exact o_one _ _ rfl) (by first | omega | (simp; omega) | simp) (by first | omega | (simp; omega) | simp) | exact o_app1 rfl rfl rfl rfl rfl (by first | exact o_many rfl | exact o_one _ _ rfl) (by exact rfl) (by first | omega | (simp; omega) | simp) (by first | omega | (simp; omega) | simp) | exact o_app0 rfl rfl rfl rfl rfl (by first | exact o_many rfl | exact o_one _ _ rfl) (by first | omega | (simp; omega) | simp) (by first | omega | (simp; omega) | simp) | exact o_bsl0 rfl rfl rfl | exact z_bsll rfl rfl rfl rfl rfl rfl rfl rfl rfl | exact z_alloc rfl rfl rfl)); (focus (first | exact want_n | exact want_g rfl (by with_reducible rfl)))) | (apply Ws; (focus (exact ok_store tabT (d := none) rfl rfl rfl rfl rfl rfl rfl rfl rfl rfl)); (focus (first | exact want_n | exact want_g rfl (by with_reducible rfl)))) | (refine Wskip (by first | exact want_f rfl (by with_reducible exact b_nt) | exact want_f rfl (by with_reducible exact b_nf) | exact want_t rfl) rfl ?_) | refine Wgt rfl rfl (by first | assumption | omega | exact rfl) ?_ | refine Wgf rfl rfl (by first | assumption | omega | exact rfl) ?_ | (refine Wgb rfl rfl (by with_reducible assumption) ?_) | (refine cb_is _ (by assumption) ?_)))
          refine ⟨j + 1, c, by omega, ?_⟩
          rw [hs, decide_eq_true (Nat.lt_succ_self j)]
          simp only [newE, List.append_nil]
          (refine Go2.sub ⟨?_, ?_⟩ <;> repeat' (first | exact True.intro | rfl | apply And.intro))
        | some v =>
          have hn1 : (outP l j j (newE m.key (some v)) j ++ ([⟨m.key, v⟩] : List Ent)).length ≤ 2 * l.length + 2 := by simp; omega
          repeat (first | (first | refine Wend _ ?_ | refine AW_seq ?_ | refine AW_reg ?_ | refine AW_drw mixed ?_ | refine AW_block ?_ | refine AW_scope ?_ | refine thenA_n ?_ | refine blockA_n ?_ | refine blockA_h ?_ | refine scopeA_n ?_ | refine thenA_r ?_ | refine blockA_r ?_ | refine scopeA_r ?_ | refine thenA_e ?_ | refine scopeA_e ?_ | refine blockA_e rfl ?_ | refine AW_exit ?_ | refine AW_ret ?_ | refine AW_skip ?_ | refine AW_c rfl ?_ | with_reducible refine cb_t ?_ | with_reducible refine cb_f ?_ | with_reducible refine cb_yes (by first | assumption | omega) ?_ | with_reducible refine cb_no (by first | assumption | omega) ?_ | refine And.intro (by decide +kernel) ?_) | (first | (apply Wv; (focus (first | exact step_ok rfl rfl | exact o_idx rfl rfl rfl rfl (by first | assumption | omega | decide) | exact o_idx3 rfl rfl rfl rfl (by first | assumption | omega | decide) | exact o_idxr rfl rfl rfl rfl rfl rfl | exact o_lenm rfl rfl rfl | exact o_len rfl rfl rfl | exact o_len0 rfl rfl rfl | exact o_add1 rfl rfl rfl (by omega) | exact o_add rfl rfl rfl (by omega) | exact o_sub1 rfl rfl rfl (by omega) | exact o_sub rfl rfl rfl (by omega) | exact o_acall rfl rfl rfl rfl (by assumption) | exact e_bld rfl rfl rfl)); (focus (first | exact want_n | exact want_g rfl (by with_reducible rfl)))) | (apply Wb; (focus (first | exact o_box rfl rfl rfl rfl | exact o_app rfl rfl rfl rfl rfl (by first | exact o_many rfl | exact o_one _ _ rfl) (by first | omega | (simp; omega) | simp) (by first | omega | (simp; omega) | simp) | exact o_appn rfl rfl rfl rfl rfl (by first | exact o_many rfl | exact o_one _ _ rfl) (by first | omega | (simp; omega) | simp) (by first | omega | (simp; omega) | simp) | exact o_app1 rfl rfl rfl rfl rfl (by first | exact o_many rfl | exact o_one _ _ rfl) (by exact rfl) (by first | omega | (simp; omega) | simp) (by first | omega | (simp; omega) | simp) | exact o_app0 rfl rfl rfl rfl rfl (by first | exact o_many rfl | exact o_one _ _ rfl) (by first | omega | (simp; omega) | simp) (by first | omega | (simp; omega) | simp) | exact o_bsl0 rfl rfl rfl | exact z_bsll rfl rfl rfl rfl rfl rfl rfl rfl rfl | exact z_alloc rfl rfl rfl)); (focus (first | exact want_n | exact want_g rfl (by with_reducible rfl)))) | (apply Ws; (focus (exact ok_store tabT (d := none) rfl rfl rfl rfl rfl rfl rfl rfl rfl rfl)); (focus (first | exact want_n | exact want_g rfl (by with_reducible rfl)))) | (refine Wskip (by first | exact want_f rfl (by with_reducible exact b_nt) | exact want_f rfl (by with_reducible exact b_nf) | exact want_t rfl) rfl ?_) | refine Wgt rfl rfl (by first | assumption | omega | exact rfl) ?_ | refine Wgf rfl rfl (by first | assumption | omega | exact rfl) ?_ | (refine Wgb rfl rfl (by with_reducible assumption) ?_) | (refine cb_is _ (by assumption) ?_)))
          refine ⟨j + 1, c, by omega, ?_⟩
          rw [hs, decide_eq_true (Nat.lt_succ_self j)]
          (refine Go2.sub ⟨?_, ?_⟩ <;> repeat' (first | exact True.intro | rfl | apply And.intro))
    · have hc := hhi j c c1
      have hb : (!decide (p < j)) = false := by simp; omega
      have hqj : q ≤ j := by rcases hcase (by omega) with ⟨e, _⟩ | ⟨e, _⟩ <;> omega
      have hs := outP_hi (new := newE m.key r) hqj c1 c
      repeat (first | (first | refine Wend _ ?_ | refine AW_seq ?_ | refine AW_reg ?_ | refine AW_drw mixed ?_ | refine AW_block ?_ | refine AW_scope ?_ | refine thenA_n ?_ | refine blockA_n ?_ | refine blockA_h ?_ | refine scopeA_n ?_ | refine thenA_r ?_ | refine blockA_r ?_ | refine scopeA_r ?_ | refine thenA_e ?_ | refine scopeA_e ?_ | refine blockA_e rfl ?_ | refine AW_exit ?_ | refine AW_ret ?_ | refine AW_skip ?_ | refine AW_c rfl ?_ | with_reducible refine cb_t ?_ | with_reducible refine cb_f ?_ | with_reducible refine cb_yes (by first | assumption | omega) ?_ | with_reducible refine cb_no (by first | assumption | omega) ?_ | refine And.intro (by decide +kernel) ?_) | (first | (apply Wv; (focus (first | exact step_ok rfl rfl | exact o_idx rfl rfl rfl rfl (by first | assumption | omega | decide) | exact o_idx3 rfl rfl rfl rfl (by first | assumption | omega | decide) | exact o_idxr rfl rfl rfl rfl rfl rfl | exact o_lenm rfl rfl rfl | exact o_len rfl rfl rfl | exact o_len0 rfl rfl rfl | exact o_add1 rfl rfl rfl (by omega) | exact o_add rfl rfl rfl (by omega) | exact o_sub1 rfl rfl rfl (by omega) | exact o_sub rfl rfl rfl (by omega) | exact o_acall rfl rfl rfl rfl (by assumption) | exact e_bld rfl rfl rfl)); (focus (first | exact want_n | exact want_g rfl (by with_reducible rfl)))) | (apply Wb; (focus (first | exact o_box rfl rfl rfl rfl | exact o_app rfl rfl rfl rfl rfl (by first | exact o_many rfl | exact o_one _ _ rfl) (by first | omega | (simp; omega) | simp) (by first | omega | (simp; omega) | simp) | exact o_appn rfl rfl rfl rfl rfl (by first | exact o_many rfl | exact o_one _ _ rfl) (by first | omega | (simp; omega) | simp) (by first | omega | (simp; omega) | simp) | exact o_app1 rfl rfl rfl rfl rfl (by first | exact o_many rfl | exact o_one _ _ rfl) (by exact rfl) (by first | omega | (simp; omega) | simp) (by first | omega | (simp; omega) | simp) | exact o_app0 rfl rfl rfl rfl rfl (by first | exact o_many rfl | exact o_one _ _ rfl) (by first | omega | (simp; omega) | simp) (by first | omega | (simp; omega) | simp) | exact o_bsl0 rfl rfl rfl | exact z_bsll rfl rfl rfl rfl rfl rfl rfl rfl rfl | exact z_alloc rfl rfl rfl)); (focus (first | exact want_n | exact want_g rfl (by with_reducible rfl)))) | (apply Ws; (focus (exact ok_store tabT (d := none) rfl rfl rfl rfl rfl rfl rfl rfl rfl rfl)); (focus (first | exact want_n | exact want_g rfl (by with_reducible rfl)))) | (refine Wskip (by first | exact want_f rfl (by with_reducible exact b_nt) | exact want_f rfl (by with_reducible exact b_nf) | exact want_t rfl) rfl ?_) | refine Wgt rfl rfl (by first | assumption | omega | exact rfl) ?_ | refine Wgf rfl rfl (by first | assumption | omega | exact rfl) ?_ | (refine Wgb rfl rfl (by with_reducible assumption) ?_) | (refine cb_is _ (by assumption) ?_)))
      refine ⟨j + 1, c, by omega, ?_⟩
      rw [hs, show decide (p < j + 1) = decide (p < j) from by rw [decide_eq_true (by omega), decide_eq_true (by omega)]]
      (refine Go2.sub ⟨?_, ?_⟩ <;> repeat' (first | exact True.intro | rfl | apply And.intro))
  · obtain rfl : j = l.length := by omega
    by_cases e : p < l.length
    · have hb : (!decide (p < l.length)) = false := by simp; omega
      rw [← outP_end e]
      repeat (first | (first | refine Wend _ ?_ | refine AW_seq ?_ | refine AW_reg ?_ | refine AW_drw mixed ?_ | refine AW_block ?_ | refine AW_scope ?_ | refine thenA_n ?_ | refine blockA_n ?_ | refine blockA_h ?_ | refine scopeA_n ?_ | refine thenA_r ?_ | refine blockA_r ?_ | refine scopeA_r ?_ | refine thenA_e ?_ | refine scopeA_e ?_ | refine blockA_e rfl ?_ | refine AW_exit ?_ | refine AW_ret ?_ | refine AW_skip ?_ | refine AW_c rfl ?_ | with_reducible refine cb_t ?_ | with_reducible refine cb_f ?_ | with_reducible refine cb_yes (by first | assumption | omega) ?_ | with_reducible refine cb_no (by first | assumption | omega) ?_ | refine And.intro (by decide +kernel) ?_) | (first | (apply Wv; (focus (first | exact step_ok rfl rfl | exact o_idx rfl rfl rfl rfl (by first | assumption | omega | decide) | exact o_idx3 rfl rfl rfl rfl (by first | assumption | omega | decide) | exact o_idxr rfl rfl rfl rfl rfl rfl | exact o_lenm rfl rfl rfl | exact o_len rfl rfl rfl | exact o_len0 rfl rfl rfl | exact o_add1 rfl rfl rfl (by omega) | exact o_add rfl rfl rfl (by omega) | exact o_sub1 rfl rfl rfl (by omega) | exact o_sub rfl rfl rfl (by omega) | exact o_acall rfl rfl rfl rfl (by assumption) | exact e_bld rfl rfl rfl)); (focus (first | exact want_n | exact want_g rfl (by with_reducible rfl)))) | (apply Wb; (focus (first | exact o_box rfl rfl rfl rfl | exact o_app rfl rfl rfl rfl rfl (by first | exact o_many rfl | exact o_one _ _ rfl) (by first | omega | (simp; omega) | simp) (by first | omega | (simp; omega) | simp) | exact o_appn rfl rfl rfl rfl rfl (by first | exact o_many rfl | exact o_one _ _ rfl) (by first | omega | (simp; omega) | simp) (by first | omega | (simp; omega) | simp) | exact o_app1 rfl rfl rfl rfl rfl (by first | exact o_many rfl | exact o_one _ _ rfl) (by exact rfl) (by first | omega | (simp; omega) | simp) (by first | omega | (simp; omega) | simp) | exact o_app0 rfl rfl rfl rfl rfl (by first | exact o_many rfl | exact o_one _ _ rfl) (by first | omega | (simp; omega) | simp) (by first | omega | (simp; omega) | simp) | exact o_bsl0 rfl rfl rfl | exact z_bsll rfl rfl rfl rfl rfl rfl rfl rfl rfl | exact z_alloc rfl rfl rfl)); (focus (first | exact want_n | exact want_g rfl (by with_reducible rfl)))) | (apply Ws; (focus (exact ok_store tabT (d := none) rfl rfl rfl rfl rfl rfl rfl rfl rfl rfl)); (focus (first | exact want_n | exact want_g rfl (by with_reducible rfl)))) | (refine Wskip (by first | exact want_f rfl (by with_reducible exact b_nt) | exact want_f rfl (by with_reducible exact b_nf) | exact want_t rfl) rfl ?_) | refine Wgt rfl rfl (by first | assumption | omega | exact rfl) ?_ | refine Wgf rfl rfl (by first | assumption | omega | exact rfl) ?_ | (refine Wgb rfl rfl (by with_reducible assumption) ?_) | (refine cb_is _ (by assumption) ?_)))
      exact fin ⟨res_sl rfl, trivial⟩
    · have hb : (!decide (p < l.length)) = true := by simp; omega
      have hs := outP_end' (new := newE m.key r) (show p = l.length by omega) hq
      cases r with
      | none =>
        rw [← hs]
        simp only [newE, List.append_nil]
        repeat (first | (first | refine Wend _ ?_ | refine AW_seq ?_ | refine AW_reg ?_ | refine AW_drw mixed ?_ | refine AW_block ?_ | refine AW_scope ?_ | refine thenA_n ?_ | refine blockA_n ?_ | refine blockA_h ?_ | refine scopeA_n ?_ | refine thenA_r ?_ | refine blockA_r ?_ | refine scopeA_r ?_ | refine thenA_e ?_ | refine scopeA_e ?_ | refine blockA_e rfl ?_ | refine AW_exit ?_ | refine AW_ret ?_ | refine AW_skip ?_ | refine AW_c rfl ?_ | with_reducible refine cb_t ?_ | with_reducible refine cb_f ?_ | with_reducible refine cb_yes (by first | assumption | omega) ?_ | with_reducible refine cb_no (by first | assumption | omega) ?_ | refine And.intro (by decide +kernel) ?_) | (first | (apply Wv; (focus (first | exact step_ok rfl rfl | exact o_idx rfl rfl rfl rfl (by first | assumption | omega | decide) | exact o_idx3 rfl rfl rfl rfl (by first | assumption | omega | decide) | exact o_idxr rfl rfl rfl rfl rfl rfl | exact o_lenm rfl rfl rfl | exact o_len rfl rfl rfl | exact o_len0 rfl rfl rfl | exact o_add1 rfl rfl rfl (by omega) | exact o_add rfl rfl rfl (by omega) | exact o_sub1 rfl rfl rfl (by omega) | exact o_sub rfl rfl rfl (by omega) | exact o_acall rfl rfl rfl rfl (by assumption) | exact e_bld rfl rfl rfl)); (focus (first | exact want_n | exact want_g rfl (by with_reducible rfl)))) | (apply Wb; (focus (first | exact o_box rfl rfl rfl rfl | exact o_app rfl rfl rfl rfl rfl (by first | exact o_many rfl | exact o_one _ _ rfl) (by first | omega | (simp; omega) | simp) (by first | omega | (simp; omega) | simp) | exact o_appn rfl rfl rfl rfl rfl (by first | exact o_many rfl | exact o_one _ _ rfl) (by first | omega | (simp; omega) | simp) (by first | omega | (simp; omega) | simp) | exact o_app1 rfl rfl rfl rfl rfl (by first | exact o_many rfl | exact o_one _ _ rfl) (by exact rfl) (by first | omega | (simp; omega) | simp) (by first | omega | (simp; omega) | simp) | exact o_app0 rfl rfl rfl rfl rfl (by first | exact o_many rfl | exact o_one _ _ rfl) (by first | omega | (simp; omega) | simp) (by first | omega | (simp; omega) | simp) | exact o_bsl0 rfl rfl rfl | exact z_bsll rfl rfl rfl rfl rfl rfl rfl rfl rfl | exact z_alloc rfl rfl rfl)); (focus (first | exact want_n | exact want_g rfl (by with_reducible rfl)))) | (apply Ws; (focus (exact ok_store tabT (d := none) rfl rfl rfl rfl rfl rfl rfl rfl rfl rfl)); (focus (first | exact want_n | exact want_g rfl (by with_reducible rfl)))) | (refine Wskip (by first | exact want_f rfl (by with_reducible exact b_nt) | exact want_f rfl (by with_reducible exact b_nf) | exact want_t rfl) rfl ?_) | refine Wgt rfl rfl (by first | assumption | omega | exact rfl) ?_ | refine Wgf rfl rfl (by first | assumption | omega | exact rfl) ?_ | (refine Wgb rfl rfl (by with_reducible assumption) ?_) | (refine cb_is _ (by assumption) ?_)))
        exact fin ⟨res_sl rfl, trivial⟩
      | some v =>
        rw [← hs]
        repeat (first | (first | refine Wend _ ?_ | refine AW_seq ?_ | refine AW_reg ?_ | refine AW_drw mixed ?_ | refine AW_block ?_ | refine AW_scope ?_ | refine thenA_n ?_ | refine blockA_n ?_ | refine blockA_h ?_ | refine scopeA_n ?_ | refine thenA_r ?_ | refine blockA_r ?_ | refine scopeA_r ?_ | refine thenA_e ?_ | refine scopeA_e ?_ | refine blockA_e rfl ?_ | refine AW_exit ?_ | refine AW_ret ?_ | refine AW_skip ?_ | refine AW_c rfl ?_ | with_reducible refine cb_t ?_ | with_reducible refine cb_f ?_ | with_reducible refine cb_yes (by first | assumption | omega) ?_ | with_reducible refine cb_no (by first | assumption | omega) ?_ | refine And.intro (by decide +kernel) ?_) | (first | (apply Wv; (focus (first | exact step_ok rfl rfl | exact o_idx rfl rfl rfl rfl (by first | assumption | omega | decide) | exact o_idx3 rfl rfl rfl rfl (by first | assumption | omega | decide) | exact o_idxr rfl rfl rfl rfl rfl rfl | exact o_lenm rfl rfl rfl | exact o_len rfl rfl rfl | exact o_len0 rfl rfl rfl | exact o_add1 rfl rfl rfl (by omega) | exact o_add rfl rfl rfl (by omega) | exact o_sub1 rfl rfl rfl (by omega) | exact o_sub rfl rfl rfl (by omega) | exact o_acall rfl rfl rfl rfl (by assumption) | exact e_bld rfl rfl rfl)); (focus (first | exact want_n | exact want_g rfl (by with_reducible rfl)))) | (apply Wb; (focus (first | exact o_box rfl rfl rfl rfl | exact o_app rfl rfl rfl rfl rfl (by first | exact o_many rfl | exact o_one _ _ rfl) (by first | omega | (simp; omega) | simp) (by first | omega | (simp; omega) | simp) | exact o_appn rfl rfl rfl rfl rfl (by first | exact o_many rfl | exact o_one _ _ rfl) (by first | omega | (simp; omega) | simp) (by first | omega | (simp; omega) | simp) | exact o_app1 rfl rfl rfl rfl rfl (by first | exact o_many rfl | exact o_one _ _ rfl) (by exact rfl) (by first | omega | (simp; omega) | simp) (by first | omega | (simp; omega) | simp) | exact o_app0 rfl rfl rfl rfl rfl (by first | exact o_many rfl | exact o_one _ _ rfl) (by first | omega | (simp; omega) | simp) (by first | omega | (simp; omega) | simp) | exact o_bsl0 rfl rfl rfl | exact z_bsll rfl rfl rfl rfl rfl rfl rfl rfl rfl | exact z_alloc rfl rfl rfl)); (focus (first | exact want_n | exact want_g rfl (by with_reducible rfl)))) | (apply Ws; (focus (exact ok_store tabT (d := none) rfl rfl rfl rfl rfl rfl rfl rfl rfl rfl)); (focus (first | exact want_n | exact want_g rfl (by with_reducible rfl)))) | (refine Wskip (by first | exact want_f rfl (by with_reducible exact b_nt) | exact want_f rfl (by with_reducible exact b_nf) | exact want_t rfl) rfl ?_) | refine Wgt rfl rfl (by first | assumption | omega | exact rfl) ?_ | refine Wgf rfl rfl (by first | assumption | omega | exact rfl) ?_ | (refine Wgb rfl rfl (by with_reducible assumption) ?_) | (refine cb_is _ (by assumption) ?_)))
        exact fin ⟨res_sl rfl, trivial⟩
end Go.Proofs.Ytigbkhjcboecjaa

namespace Go.Proofs.Ytigbkhjcboecjaa
open Go Go.RowKit
set_option linter.unusedVariables false
set_option linter.unusedSimpArgs false

section
variable {E : Env} {nt : Nat} {ops : Array Oper} {T : Nat → Option AV} {H : Hp} {d : Option Nat} {ty : TypeId} {pos : String} {af : Array Edge} {gd : Option (Nat × Bool)}
theorem o_make0 {α : Type} (f : α → AV) {t e : TypeId} {es bytes : Nat} {ea : Bool} {x y : Operand} {k k' : IntKind} {n : Nat} {g : Nat} (hd : dOk nt (some g) = true) (hs : tabT.ti t = some (.sl e (es + 1) bytes ea)) (hx : evalO T x = some (.v (.int k 0))) (hy : evalO T y = some (.v (.int k' (n : Nat)))) (hg : H g = none) (hb : bytes * n ≤ 140737488355328) (hn : n ≤ 9223372036854775807) :
    OpOK Try.prog E nt ops ⟨some g, .makeSlice t x y, ty, pos, af, gd⟩ T H [] ⟨.sl (some g) (es + 1) (([] : List α).map f), [(g, .tail e (es + 1) ([] : List α).length)]⟩ := ok_make0 tabT hd hs hx hy hg hb hn
end
attribute [local irreducible] OpOK AWops AW CondB Go2 AFn thenA inBlockA noGotoA orderOk wantedA
end Go.Proofs.Ytigbkhjcboecjaa

namespace Go.Proofs.Ytigbkhjcboecjaa
open Go Go.RowKit
set_option linter.unusedVariables false
set_option linter.unusedSimpArgs false

theorem lfAll_snoc (l : List Ent) (ms : List Msg) (j : Nat) (h : j < ms.length) : lfAll l (ms.take (j + 1)) = lfPut (lfAll l (ms.take j)) ms[j] := by
  unfold lfAll
  rw [← List.take_append_getElem h, List.foldl_append]
  rfl
def EBd (l : List Ent) : Prop := ∀ e ∈ l, (0 ≤ e.key.n ∧ e.key.n ≤ 8) ∧ (0 ≤ e.val.n ∧ e.val.n ≤ 16)
theorem EOk.bd {l : List Ent} (h : EOk l) : EBd l := fun e he => ⟨Key.n_le (h e he).1, Vl.n_le (h e he).2⟩
theorem eSum_nil : eSum [] = 0 := rfl
theorem eSum_append (a b : List Ent) : eSum (a ++ b) = eSum a + eSum b := by simp [eSum]
theorem eSum_snoc (l : List Ent) (j : Nat) (h : j < l.length) : eSum (l.take (j + 1)) = eSum (l.take j) + l[j].size := by
  rw [← List.take_append_getElem h, eSum_append]
  simp [eSum]
theorem EBd.sum : ∀ {l : List Ent}, EBd l → 2 * (l.length : Int) ≤ eSum l ∧ eSum l ≤ 26 * (l.length : Int)
  | [], _ => by simp [eSum]
  | e :: l, h => by
    have h1 := EBd.sum (l := l) (fun x hx => h x (List.mem_cons_of_mem _ hx))
    have h2 := h e (by simp)
    have h3 : eSum (e :: l) = e.size + eSum l := by simp [eSum]
    unfold Ent.size at h3
    rw [h3]
    simp only [List.length_cons]
    omega
theorem EBd.take {l : List Ent} (h : EBd l) (j : Nat) : EBd (l.take j) := fun e he => h e (List.mem_of_mem_take he)
theorem EBd.drop {l : List Ent} (h : EBd l) (j : Nat) : EBd (l.drop j) := fun e he => h e (List.mem_of_mem_drop he)
/-- entries of a leaf, by neighbours -/
def EntsOk (cmp : Key → Key → Int) (l : List Ent) : Prop := ∀ j (h : j < l.length), l[j].key.ok = true ∧ l[j].val.ok = true ∧ ∀ i (hi : i + 1 = j), cmp (l[i]'(by omega)).key l[j].key < 0
noncomputable def entsOkB (cmp : Key → Key → Int) (l : List Ent) : Bool := @decide (EntsOk cmp l) (Classical.propDecidable _)
theorem entsOkB_true {cmp : Key → Key → Int} {l : List Ent} (h : EntsOk cmp l) : entsOkB cmp l = true := by unfold entsOkB; exact @decide_eq_true _ (Classical.propDecidable _) h
theorem entsOkB_false {cmp : Key → Key → Int} {l : List Ent} (h : ¬ EntsOk cmp l) : entsOkB cmp l = false := by unfold entsOkB; exact @decide_eq_false _ (Classical.propDecidable _) h
theorem entsOk_ref (l : List Ent) : EntsOk refCmp l ↔ EntsOk keyCmp l := by
  constructor <;>
  · intro h j hj
    obtain ⟨h1, h2, h3⟩ := h j hj
    refine ⟨h1, h2, fun i hi => ?_⟩
    have := h3 i hi
    first
      | rwa [refCmp_key (h i (by omega)).1 h1] at this
      | rwa [refCmp_key (h i (by omega)).1 h1]
theorem entsOkB_ref (l : List Ent) : entsOkB refCmp l = entsOkB keyCmp l := by
  by_cases c : EntsOk keyCmp l
  · rw [entsOkB_true c, entsOkB_true ((entsOk_ref l).2 c)]
  · rw [entsOkB_false c, entsOkB_false (fun h => c ((entsOk_ref l).1 h))]
theorem Lf.ents {l : List Ent} (h : Lf l) : EntsOk keyCmp l := fun j hj => ⟨(h.ok _ (List.getElem_mem hj)).1, (h.ok _ (List.getElem_mem hj)).2, fun i hi => by
  rw [keyCmp_rank, sgn_neg]; exact h.srt.lt (by omega) hj (by omega)⟩
theorem EntsOk.eok {cmp : Key → Key → Int} {l : List Ent} (h : EntsOk cmp l) : EOk l := fun e he => by
  obtain ⟨j, hj, rfl⟩ := List.mem_iff_getElem.1 he
  exact ⟨(h j hj).1, (h j hj).2.1⟩
attribute [local irreducible] OpOK AWops AW CondB Go2 AFn thenA inBlockA noGotoA orderOk wantedA
set_option maxRecDepth 100000 in
set_option maxHeartbeats 8000000 in
theorem a_ref07all (l : List Ent) (ms : List Msg) (h : Lf l) (hm : ∀ m ∈ ms, m.ok = true) (hl : l.length ≤ 100000000) (hl2 : ms.length ≤ 100000000) : AFn Try.prog 35 [entsA l, msgsA ms] (entsA (lfAll l ms)) := by
  refine AFn_intro Try.func35 rfl Try.ntmps35 rfl (by simp) [_] rfl fun E hE => ?_
  repeat (first | (first | refine Wend _ ?_ | refine AW_seq ?_ | refine AW_reg ?_ | refine AW_drw mixed ?_ | refine AW_block ?_ | refine AW_scope ?_ | refine thenA_n ?_ | refine blockA_n ?_ | refine blockA_h ?_ | refine scopeA_n ?_ | refine thenA_r ?_ | refine blockA_r ?_ | refine scopeA_r ?_ | refine thenA_e ?_ | refine scopeA_e ?_ | refine blockA_e rfl ?_ | refine AW_exit ?_ | refine AW_ret ?_ | refine AW_skip ?_ | refine AW_c rfl ?_ | with_reducible refine cb_t ?_ | with_reducible refine cb_f ?_ | with_reducible refine cb_yes (by first | assumption | omega) ?_ | with_reducible refine cb_no (by first | assumption | omega) ?_ | refine And.intro (by decide +kernel) ?_) | (first | (apply Wv; (focus (first | exact step_ok rfl rfl | exact o_idx rfl rfl rfl rfl (by first | assumption | omega | decide) | exact o_idx3 rfl rfl rfl rfl (by first | assumption | omega | decide) | exact o_idxr rfl rfl rfl rfl rfl rfl | exact o_lenm rfl rfl rfl | exact o_len rfl rfl rfl | exact o_len0 rfl rfl rfl | exact o_add1 rfl rfl rfl (by omega) | exact o_add rfl rfl rfl (by omega) | exact o_sub1 rfl rfl rfl (by omega) | exact o_sub rfl rfl rfl (by omega) | exact o_acall rfl rfl rfl rfl (by assumption) | exact e_bld rfl rfl rfl)); (focus (first | exact want_n | exact want_g rfl (by with_reducible rfl)))) | (apply Wb; (focus (first | exact o_box rfl rfl rfl rfl | exact o_app rfl rfl rfl rfl rfl (by first | exact o_many rfl | exact o_one _ _ rfl) (by first | omega | (simp; omega) | simp) (by first | omega | (simp; omega) | simp) | exact o_appn rfl rfl rfl rfl rfl (by first | exact o_many rfl | exact o_one _ _ rfl) (by first | omega | (simp; omega) | simp) (by first | omega | (simp; omega) | simp) | exact o_app1 rfl rfl rfl rfl rfl (by first | exact o_many rfl | exact o_one _ _ rfl) (by exact rfl) (by first | omega | (simp; omega) | simp) (by first | omega | (simp; omega) | simp) | exact o_app0 rfl rfl rfl rfl rfl (by first | exact o_many rfl | exact o_one _ _ rfl) (by first | omega | (simp; omega) | simp) (by first | omega | (simp; omega) | simp) | exact o_bsl0 rfl rfl rfl | exact z_bsll rfl rfl rfl rfl rfl rfl rfl rfl rfl | exact z_alloc rfl rfl rfl)); (focus (first | exact want_n | exact want_g rfl (by with_reducible rfl)))) | (apply Ws; (focus (exact ok_store tabT (d := none) rfl rfl rfl rfl rfl rfl rfl rfl rfl rfl)); (focus (first | exact want_n | exact want_g rfl (by with_reducible rfl)))) | (refine Wskip (by first | exact want_f rfl (by with_reducible exact b_nt) | exact want_f rfl (by with_reducible exact b_nf) | exact want_t rfl) rfl ?_) | refine Wgt rfl rfl (by first | assumption | omega | exact rfl) ?_ | refine Wgf rfl rfl (by first | assumption | omega | exact rfl) ?_ | (refine Wgb rfl rfl (by with_reducible assumption) ?_) | (refine cb_is _ (by assumption) ?_)))
  refine AW_go (Go2.weak 5 rfl) ?_
  refine AW_loopI (fun j : Nat => ⟨[(1, msgsA ms), (5, entsA (lfAll l (ms.take j))), (6, intA j)], []⟩) (fun j => j ≤ ms.length) (fun j => ms.length - j) 0 (Nat.zero_le _) (by (refine Go2.sub ⟨?_, ?_⟩ <;> repeat' (first | exact True.intro | rfl | apply And.intro))) (fun j hj => ?_)
  have hlen := all_len (ms.take j) l
  rw [List.length_take] at hlen
  have hlf := lf_all (ms := ms.take j) h (fun m hm' => hm m (List.mem_of_mem_take hm'))
  by_cases c : j < ms.length
  · have hmj := Msg.spec (hm ms[j] (List.getElem_mem c))
    have hs := lfAll_snoc l ms j c
    have d1 := acall Try.func51 (a_ref07put (lfAll l (ms.take j)) ms[j] hlf hmj.2.2.1 (by omega)) (by decide +kernel) (by decide +kernel)
    repeat (first | (first | refine Wend _ ?_ | refine AW_seq ?_ | refine AW_reg ?_ | refine AW_drw mixed ?_ | refine AW_block ?_ | refine AW_scope ?_ | refine thenA_n ?_ | refine blockA_n ?_ | refine blockA_h ?_ | refine scopeA_n ?_ | refine thenA_r ?_ | refine blockA_r ?_ | refine scopeA_r ?_ | refine thenA_e ?_ | refine scopeA_e ?_ | refine blockA_e rfl ?_ | refine AW_exit ?_ | refine AW_ret ?_ | refine AW_skip ?_ | refine AW_c rfl ?_ | with_reducible refine cb_t ?_ | with_reducible refine cb_f ?_ | with_reducible refine cb_yes (by first | assumption | omega) ?_ | with_reducible refine cb_no (by first | assumption | omega) ?_ | refine And.intro (by decide +kernel) ?_) | (first | (apply Wv; (focus (first | exact step_ok rfl rfl | exact o_idx rfl rfl rfl rfl (by first | assumption | omega | decide) | exact o_idx3 rfl rfl rfl rfl (by first | assumption | omega | decide) | exact o_idxr rfl rfl rfl rfl rfl rfl | exact o_lenm rfl rfl rfl | exact o_len rfl rfl rfl | exact o_len0 rfl rfl rfl | exact o_add1 rfl rfl rfl (by omega) | exact o_add rfl rfl rfl (by omega) | exact o_sub1 rfl rfl rfl (by omega) | exact o_sub rfl rfl rfl (by omega) | exact o_acall rfl rfl rfl rfl (by assumption) | exact e_bld rfl rfl rfl)); (focus (first | exact want_n | exact want_g rfl (by with_reducible rfl)))) | (apply Wb; (focus (first | exact o_box rfl rfl rfl rfl | exact o_app rfl rfl rfl rfl rfl (by first | exact o_many rfl | exact o_one _ _ rfl) (by first | omega | (simp; omega) | simp) (by first | omega | (simp; omega) | simp) | exact o_appn rfl rfl rfl rfl rfl (by first | exact o_many rfl | exact o_one _ _ rfl) (by first | omega | (simp; omega) | simp) (by first | omega | (simp; omega) | simp) | exact o_app1 rfl rfl rfl rfl rfl (by first | exact o_many rfl | exact o_one _ _ rfl) (by exact rfl) (by first | omega | (simp; omega) | simp) (by first | omega | (simp; omega) | simp) | exact o_app0 rfl rfl rfl rfl rfl (by first | exact o_many rfl | exact o_one _ _ rfl) (by first | omega | (simp; omega) | simp) (by first | omega | (simp; omega) | simp) | exact o_bsl0 rfl rfl rfl | exact z_bsll rfl rfl rfl rfl rfl rfl rfl rfl rfl | exact z_alloc rfl rfl rfl)); (focus (first | exact want_n | exact want_g rfl (by with_reducible rfl)))) | (apply Ws; (focus (exact ok_store tabT (d := none) rfl rfl rfl rfl rfl rfl rfl rfl rfl rfl)); (focus (first | exact want_n | exact want_g rfl (by with_reducible rfl)))) | (refine Wskip (by first | exact want_f rfl (by with_reducible exact b_nt) | exact want_f rfl (by with_reducible exact b_nf) | exact want_t rfl) rfl ?_) | refine Wgt rfl rfl (by first | assumption | omega | exact rfl) ?_ | refine Wgf rfl rfl (by first | assumption | omega | exact rfl) ?_ | (refine Wgb rfl rfl (by with_reducible assumption) ?_) | (refine cb_is _ (by assumption) ?_)))
    refine ⟨j + 1, c, by omega, ?_⟩
    rw [hs]
    (refine Go2.sub ⟨?_, ?_⟩ <;> repeat' (first | exact True.intro | rfl | apply And.intro))
  · obtain rfl : j = ms.length := by omega
    rw [List.take_length]
    repeat (first | (first | refine Wend _ ?_ | refine AW_seq ?_ | refine AW_reg ?_ | refine AW_drw mixed ?_ | refine AW_block ?_ | refine AW_scope ?_ | refine thenA_n ?_ | refine blockA_n ?_ | refine blockA_h ?_ | refine scopeA_n ?_ | refine thenA_r ?_ | refine blockA_r ?_ | refine scopeA_r ?_ | refine thenA_e ?_ | refine scopeA_e ?_ | refine blockA_e rfl ?_ | refine AW_exit ?_ | refine AW_ret ?_ | refine AW_skip ?_ | refine AW_c rfl ?_ | with_reducible refine cb_t ?_ | with_reducible refine cb_f ?_ | with_reducible refine cb_yes (by first | assumption | omega) ?_ | with_reducible refine cb_no (by first | assumption | omega) ?_ | refine And.intro (by decide +kernel) ?_) | (first | (apply Wv; (focus (first | exact step_ok rfl rfl | exact o_idx rfl rfl rfl rfl (by first | assumption | omega | decide) | exact o_idx3 rfl rfl rfl rfl (by first | assumption | omega | decide) | exact o_idxr rfl rfl rfl rfl rfl rfl | exact o_lenm rfl rfl rfl | exact o_len rfl rfl rfl | exact o_len0 rfl rfl rfl | exact o_add1 rfl rfl rfl (by omega) | exact o_add rfl rfl rfl (by omega) | exact o_sub1 rfl rfl rfl (by omega) | exact o_sub rfl rfl rfl (by omega) | exact o_acall rfl rfl rfl rfl (by assumption) | exact e_bld rfl rfl rfl)); (focus (first | exact want_n | exact want_g rfl (by with_reducible rfl)))) | (apply Wb; (focus (first | exact o_box rfl rfl rfl rfl | exact o_app rfl rfl rfl rfl rfl (by first | exact o_many rfl | exact o_one _ _ rfl) (by first | omega | (simp; omega) | simp) (by first | omega | (simp; omega) | simp) | exact o_appn rfl rfl rfl rfl rfl (by first | exact o_many rfl | exact o_one _ _ rfl) (by first | omega | (simp; omega) | simp) (by first | omega | (simp; omega) | simp) | exact o_app1 rfl rfl rfl rfl rfl (by first | exact o_many rfl | exact o_one _ _ rfl) (by exact rfl) (by first | omega | (simp; omega) | simp) (by first | omega | (simp; omega) | simp) | exact o_app0 rfl rfl rfl rfl rfl (by first | exact o_many rfl | exact o_one _ _ rfl) (by first | omega | (simp; omega) | simp) (by first | omega | (simp; omega) | simp) | exact o_bsl0 rfl rfl rfl | exact z_bsll rfl rfl rfl rfl rfl rfl rfl rfl rfl | exact z_alloc rfl rfl rfl)); (focus (first | exact want_n | exact want_g rfl (by with_reducible rfl)))) | (apply Ws; (focus (exact ok_store tabT (d := none) rfl rfl rfl rfl rfl rfl rfl rfl rfl rfl)); (focus (first | exact want_n | exact want_g rfl (by with_reducible rfl)))) | (refine Wskip (by first | exact want_f rfl (by with_reducible exact b_nt) | exact want_f rfl (by with_reducible exact b_nf) | exact want_t rfl) rfl ?_) | refine Wgt rfl rfl (by first | assumption | omega | exact rfl) ?_ | refine Wgf rfl rfl (by first | assumption | omega | exact rfl) ?_ | (refine Wgb rfl rfl (by with_reducible assumption) ?_) | (refine cb_is _ (by assumption) ?_)))
    exact fin ⟨res_sl rfl, trivial⟩
set_option maxRecDepth 100000 in
set_option maxHeartbeats 8000000 in
theorem a_ref07bytes (l : List Ent) (h : EBd l) (hl : l.length ≤ 100000000) : AFn Try.prog 52 [entsA l] (intA (eSum l)) := by
  refine AFn_intro Try.func52 rfl Try.ntmps52 rfl (by simp) [_] rfl fun E hE => ?_
  repeat (first | (first | refine Wend _ ?_ | refine AW_seq ?_ | refine AW_reg ?_ | refine AW_drw mixed ?_ | refine AW_block ?_ | refine AW_scope ?_ | refine thenA_n ?_ | refine blockA_n ?_ | refine blockA_h ?_ | refine scopeA_n ?_ | refine thenA_r ?_ | refine blockA_r ?_ | refine scopeA_r ?_ | refine thenA_e ?_ | refine scopeA_e ?_ | refine blockA_e rfl ?_ | refine AW_exit ?_ | refine AW_ret ?_ | refine AW_skip ?_ | refine AW_c rfl ?_ | with_reducible refine cb_t ?_ | with_reducible refine cb_f ?_ | with_reducible refine cb_yes (by first | assumption | omega) ?_ | with_reducible refine cb_no (by first | assumption | omega) ?_ | refine And.intro (by decide +kernel) ?_) | (first | (apply Wv; (focus (first | exact step_ok rfl rfl | exact o_idx rfl rfl rfl rfl (by first | assumption | omega | decide) | exact o_idx3 rfl rfl rfl rfl (by first | assumption | omega | decide) | exact o_idxr rfl rfl rfl rfl rfl rfl | exact o_lenm rfl rfl rfl | exact o_len rfl rfl rfl | exact o_len0 rfl rfl rfl | exact o_add1 rfl rfl rfl (by omega) | exact o_add rfl rfl rfl (by omega) | exact o_sub1 rfl rfl rfl (by omega) | exact o_sub rfl rfl rfl (by omega) | exact o_acall rfl rfl rfl rfl (by assumption) | exact e_bld rfl rfl rfl)); (focus (first | exact want_n | exact want_g rfl (by with_reducible rfl)))) | (apply Wb; (focus (first | exact o_box rfl rfl rfl rfl | exact o_app rfl rfl rfl rfl rfl (by first | exact o_many rfl | exact o_one _ _ rfl) (by first | omega | (simp; omega) | simp) (by first | omega | (simp; omega) | simp) | exact o_appn rfl rfl rfl rfl rfl (by first | exact o_many rfl | exact o_one _ _ rfl) (by first | omega | (simp; omega) | simp) (by first | omega | (simp; omega) | simp) | exact o_app1 rfl rfl rfl rfl rfl (by first | exact o_many rfl | exact o_one _ _ rfl) (by exact rfl) (by first | omega | (simp; omega) | simp) (by first | omega | (simp; omega) | simp) | exact o_app0 rfl rfl rfl rfl rfl (by first | exact o_many rfl | exact o_one _ _ rfl) (by first | omega | (simp; omega) | simp) (by first | omega | (simp; omega) | simp) | exact o_bsl0 rfl rfl rfl | exact z_bsll rfl rfl rfl rfl rfl rfl rfl rfl rfl | exact z_alloc rfl rfl rfl)); (focus (first | exact want_n | exact want_g rfl (by with_reducible rfl)))) | (apply Ws; (focus (exact ok_store tabT (d := none) rfl rfl rfl rfl rfl rfl rfl rfl rfl rfl)); (focus (first | exact want_n | exact want_g rfl (by with_reducible rfl)))) | (refine Wskip (by first | exact want_f rfl (by with_reducible exact b_nt) | exact want_f rfl (by with_reducible exact b_nf) | exact want_t rfl) rfl ?_) | refine Wgt rfl rfl (by first | assumption | omega | exact rfl) ?_ | refine Wgf rfl rfl (by first | assumption | omega | exact rfl) ?_ | (refine Wgb rfl rfl (by with_reducible assumption) ?_) | (refine cb_is _ (by assumption) ?_)))
  refine AW_loopI (fun j : Nat => ⟨[(0, entsA l), (3, intA (eSum (l.take j))), (4, intA j)], []⟩) (fun j => j ≤ l.length) (fun j => l.length - j) 0 (Nat.zero_le _) (by (refine Go2.sub ⟨?_, ?_⟩ <;> repeat' (first | exact True.intro | rfl | apply And.intro))) (fun j hj => ?_)
  have hb := (h.take j).sum
  rw [List.length_take] at hb
  by_cases c : j < l.length
  · have hs : eSum (l.take (j + 1)) = eSum (l.take j) + 2 + l[j].key.n + l[j].val.n := by
      rw [eSum_snoc l j c]; unfold Ent.size; omega
    have he := h l[j] (List.getElem_mem c)
    repeat (first | (first | refine Wend _ ?_ | refine AW_seq ?_ | refine AW_reg ?_ | refine AW_drw mixed ?_ | refine AW_block ?_ | refine AW_scope ?_ | refine thenA_n ?_ | refine blockA_n ?_ | refine blockA_h ?_ | refine scopeA_n ?_ | refine thenA_r ?_ | refine blockA_r ?_ | refine scopeA_r ?_ | refine thenA_e ?_ | refine scopeA_e ?_ | refine blockA_e rfl ?_ | refine AW_exit ?_ | refine AW_ret ?_ | refine AW_skip ?_ | refine AW_c rfl ?_ | with_reducible refine cb_t ?_ | with_reducible refine cb_f ?_ | with_reducible refine cb_yes (by first | assumption | omega) ?_ | with_reducible refine cb_no (by first | assumption | omega) ?_ | refine And.intro (by decide +kernel) ?_) | (first | (apply Wv; (focus (first | exact step_ok rfl rfl | exact o_idx rfl rfl rfl rfl (by first | assumption | omega | decide) | exact o_idx3 rfl rfl rfl rfl (by first | assumption | omega | decide) | exact o_idxr rfl rfl rfl rfl rfl rfl | exact o_lenm rfl rfl rfl | exact o_len rfl rfl rfl | exact o_len0 rfl rfl rfl | exact o_add1 rfl rfl rfl (by omega) | exact o_add rfl rfl rfl (by omega) | exact o_sub1 rfl rfl rfl (by omega) | exact o_sub rfl rfl rfl (by omega) | exact o_acall rfl rfl rfl rfl (by assumption) | exact e_bld rfl rfl rfl)); (focus (first | exact want_n | exact want_g rfl (by with_reducible rfl)))) | (apply Wb; (focus (first | exact o_box rfl rfl rfl rfl | exact o_app rfl rfl rfl rfl rfl (by first | exact o_many rfl | exact o_one _ _ rfl) (by first | omega | (simp; omega) | simp) (by first | omega | (simp; omega) | simp) | exact o_appn rfl rfl rfl rfl rfl (by first | exact o_many rfl | exact o_one _ _ rfl) (by first | omega | (simp; omega) | simp) (by first | omega | (simp; omega) | simp) | exact o_app1 rfl rfl rfl rfl rfl (by first | exact o_many rfl | exact o_one _ _ rfl) (by exact rfl) (by first | omega | (simp; omega) | simp) (by first | omega | (simp; omega) | simp) | exact o_app0 rfl rfl rfl rfl rfl (by first | exact o_many rfl | exact o_one _ _ rfl) (by first | omega | (simp; omega) | simp) (by first | omega | (simp; omega) | simp) | exact o_bsl0 rfl rfl rfl | exact z_bsll rfl rfl rfl rfl rfl rfl rfl rfl rfl | exact z_alloc rfl rfl rfl)); (focus (first | exact want_n | exact want_g rfl (by with_reducible rfl)))) | (apply Ws; (focus (exact ok_store tabT (d := none) rfl rfl rfl rfl rfl rfl rfl rfl rfl rfl)); (focus (first | exact want_n | exact want_g rfl (by with_reducible rfl)))) | (refine Wskip (by first | exact want_f rfl (by with_reducible exact b_nt) | exact want_f rfl (by with_reducible exact b_nf) | exact want_t rfl) rfl ?_) | refine Wgt rfl rfl (by first | assumption | omega | exact rfl) ?_ | refine Wgf rfl rfl (by first | assumption | omega | exact rfl) ?_ | (refine Wgb rfl rfl (by with_reducible assumption) ?_) | (refine cb_is _ (by assumption) ?_)))
    refine ⟨j + 1, c, by omega, ?_⟩
    rw [hs]
    (refine Go2.sub ⟨?_, ?_⟩ <;> repeat' (first | exact True.intro | rfl | apply And.intro))
  · obtain rfl : j = l.length := by omega
    rw [List.take_length]
    repeat (first | (first | refine Wend _ ?_ | refine AW_seq ?_ | refine AW_reg ?_ | refine AW_drw mixed ?_ | refine AW_block ?_ | refine AW_scope ?_ | refine thenA_n ?_ | refine blockA_n ?_ | refine blockA_h ?_ | refine scopeA_n ?_ | refine thenA_r ?_ | refine blockA_r ?_ | refine scopeA_r ?_ | refine thenA_e ?_ | refine scopeA_e ?_ | refine blockA_e rfl ?_ | refine AW_exit ?_ | refine AW_ret ?_ | refine AW_skip ?_ | refine AW_c rfl ?_ | with_reducible refine cb_t ?_ | with_reducible refine cb_f ?_ | with_reducible refine cb_yes (by first | assumption | omega) ?_ | with_reducible refine cb_no (by first | assumption | omega) ?_ | refine And.intro (by decide +kernel) ?_) | (first | (apply Wv; (focus (first | exact step_ok rfl rfl | exact o_idx rfl rfl rfl rfl (by first | assumption | omega | decide) | exact o_idx3 rfl rfl rfl rfl (by first | assumption | omega | decide) | exact o_idxr rfl rfl rfl rfl rfl rfl | exact o_lenm rfl rfl rfl | exact o_len rfl rfl rfl | exact o_len0 rfl rfl rfl | exact o_add1 rfl rfl rfl (by omega) | exact o_add rfl rfl rfl (by omega) | exact o_sub1 rfl rfl rfl (by omega) | exact o_sub rfl rfl rfl (by omega) | exact o_acall rfl rfl rfl rfl (by assumption) | exact e_bld rfl rfl rfl)); (focus (first | exact want_n | exact want_g rfl (by with_reducible rfl)))) | (apply Wb; (focus (first | exact o_box rfl rfl rfl rfl | exact o_app rfl rfl rfl rfl rfl (by first | exact o_many rfl | exact o_one _ _ rfl) (by first | omega | (simp; omega) | simp) (by first | omega | (simp; omega) | simp) | exact o_appn rfl rfl rfl rfl rfl (by first | exact o_many rfl | exact o_one _ _ rfl) (by first | omega | (simp; omega) | simp) (by first | omega | (simp; omega) | simp) | exact o_app1 rfl rfl rfl rfl rfl (by first | exact o_many rfl | exact o_one _ _ rfl) (by exact rfl) (by first | omega | (simp; omega) | simp) (by first | omega | (simp; omega) | simp) | exact o_app0 rfl rfl rfl rfl rfl (by first | exact o_many rfl | exact o_one _ _ rfl) (by first | omega | (simp; omega) | simp) (by first | omega | (simp; omega) | simp) | exact o_bsl0 rfl rfl rfl | exact z_bsll rfl rfl rfl rfl rfl rfl rfl rfl rfl | exact z_alloc rfl rfl rfl)); (focus (first | exact want_n | exact want_g rfl (by with_reducible rfl)))) | (apply Ws; (focus (exact ok_store tabT (d := none) rfl rfl rfl rfl rfl rfl rfl rfl rfl rfl)); (focus (first | exact want_n | exact want_g rfl (by with_reducible rfl)))) | (refine Wskip (by first | exact want_f rfl (by with_reducible exact b_nt) | exact want_f rfl (by with_reducible exact b_nf) | exact want_t rfl) rfl ?_) | refine Wgt rfl rfl (by first | assumption | omega | exact rfl) ?_ | refine Wgf rfl rfl (by first | assumption | omega | exact rfl) ?_ | (refine Wgb rfl rfl (by with_reducible assumption) ?_) | (refine cb_is _ (by assumption) ?_)))
    exact fin ⟨res_of rfl rfl rfl, trivial⟩
set_option maxRecDepth 100000 in
set_option maxHeartbeats 8000000 in
theorem a_ref07same (l : List Ent) (hl : l.length ≤ 100000000) : AFn Try.prog 36 [entsA l, entsA l] (boolA true) := by
  refine AFn_intro Try.func36 rfl Try.ntmps36 rfl (by simp) [_] rfl fun E hE => ?_
  repeat (first | (first | refine Wend _ ?_ | refine AW_seq ?_ | refine AW_reg ?_ | refine AW_drw mixed ?_ | refine AW_block ?_ | refine AW_scope ?_ | refine thenA_n ?_ | refine blockA_n ?_ | refine blockA_h ?_ | refine scopeA_n ?_ | refine thenA_r ?_ | refine blockA_r ?_ | refine scopeA_r ?_ | refine thenA_e ?_ | refine scopeA_e ?_ | refine blockA_e rfl ?_ | refine AW_exit ?_ | refine AW_ret ?_ | refine AW_skip ?_ | refine AW_c rfl ?_ | with_reducible refine cb_t ?_ | with_reducible refine cb_f ?_ | with_reducible refine cb_yes (by first | assumption | omega) ?_ | with_reducible refine cb_no (by first | assumption | omega) ?_ | refine And.intro (by decide +kernel) ?_) | (first | (apply Wv; (focus (first | exact step_ok rfl rfl | exact o_idx rfl rfl rfl rfl (by first | assumption | omega | decide) | exact o_idx3 rfl rfl rfl rfl (by first | assumption | omega | decide) | exact o_idx2 rfl rfl rfl rfl rfl (by first | assumption | omega | decide) | exact o_idxr rfl rfl rfl rfl rfl rfl | exact o_lenm rfl rfl rfl | exact o_len rfl rfl rfl | exact o_len0 rfl rfl rfl | exact o_lens rfl rfl rfl | exact o_lent rfl rfl | exact o_add1 rfl rfl rfl (by omega) | exact o_addn rfl rfl rfl (by omega) | exact o_add rfl rfl rfl (by omega) | exact o_sub1 rfl rfl rfl (by omega) | exact o_sub rfl rfl rfl (by omega) | exact o_mul rfl rfl rfl (by omega) | exact o_rem rfl rfl rfl (by omega) | exact ok_rem rfl rfl rfl (by decide) rfl | exact o_eqKey rfl rfl rfl | exact o_neKey rfl rfl rfl | exact o_eqVl rfl rfl rfl | exact o_neVl rfl rfl rfl | exact o_eqEnt rfl rfl rfl | exact o_neEnt rfl rfl rfl | exact o_eqMsg rfl rfl rfl | exact o_neMsg rfl rfl rfl | exact o_acall rfl rfl rfl rfl (by assumption) | exact o_minn rfl rfl rfl | exact o_cutl rfl rfl rfl rfl (by omega) | exact o_cuth rfl rfl rfl rfl (by omega) | exact o_cutl3 rfl rfl rfl rfl (by omega) | exact o_cuth3 rfl rfl rfl rfl (by omega) | exact o_cutl2 rfl rfl rfl rfl rfl (by omega) | exact o_cuth2 rfl rfl rfl rfl rfl (by omega) | exact o_cutlh2 rfl rfl rfl rfl rfl rfl rfl (by omega) (by omega) | exact e_bld rfl rfl rfl | exact e_bldk rfl rfl | exact z_bld0 rfl rfl rfl rfl rfl | exact z_bld rfl rfl rfl rfl rfl rfl rfl | exact o_addu rfl rfl rfl | exact z_blda rfl rfl rfl rfl rfl rfl rfl rfl rfl | exact o_idxa rfl rfl rfl rfl rfl rfl | exact o_idxra rfl rfl rfl rfl rfl rfl rfl | exact o_quo2 rfl rfl rfl (by omega) | exact o_quo rfl rfl rfl (by omega))); (focus (first | exact want_n | exact want_g rfl (by with_reducible rfl)))) | (apply Wb; (focus (first | exact o_box rfl rfl rfl rfl | exact o_app rfl rfl rfl rfl rfl (by first | exact o_many rfl | exact o_one _ _ rfl) (by first | omega | (simp; omega) | simp) (by first | omega | (simp; omega) | simp) | exact o_appn rfl rfl rfl rfl rfl (by first | exact o_many rfl | exact o_one _ _ rfl) (by first | omega | (simp; omega) | simp) (by first | omega | (simp; omega) | simp) | exact o_app1 rfl rfl rfl rfl rfl (by first | exact o_many rfl | exact o_one _ _ rfl) (by exact rfl) (by first | omega | (simp; omega) | simp) (by first | omega | (simp; omega) | simp) | exact o_app0 rfl rfl rfl rfl rfl (by first | exact o_many rfl | exact o_one _ _ rfl) (by first | omega | (simp; omega) | simp) (by first | omega | (simp; omega) | simp) | exact o_bsl0 rfl rfl rfl | exact z_bsll rfl rfl rfl rfl rfl rfl rfl rfl rfl | exact z_alloc rfl rfl rfl)); (focus (first | exact want_n | exact want_g rfl (by with_reducible rfl)))) | (apply Ws; (focus (exact ok_store tabT (d := none) rfl rfl rfl rfl rfl rfl rfl rfl rfl rfl)); (focus (first | exact want_n | exact want_g rfl (by with_reducible rfl)))) | (refine Wskip (by first | exact want_f rfl (by with_reducible exact b_nt) | exact want_f rfl (by with_reducible exact b_nf) | exact want_t rfl) rfl ?_) | refine Wgt rfl rfl (by first | assumption | omega | exact rfl) ?_ | refine Wgf rfl rfl (by first | assumption | omega | exact rfl) ?_ | (refine Wgb rfl rfl (by with_reducible assumption) ?_) | (refine cb_is _ (by assumption) ?_)))
  refine AW_loopI (fun j : Nat => ⟨[(0, entsA l), (1, entsA l), (5, intA j)], []⟩) (fun j => j ≤ l.length) (fun j => l.length - j) 0 (Nat.zero_le _) (by (refine Go2.sub ⟨?_, ?_⟩ <;> repeat' (first | exact True.intro | rfl | apply And.intro))) (fun j hj => ?_)
  by_cases c : j < l.length
  · have hs : ¬ l[j] ≠ l[j] := fun h => h rfl
    repeat (first | (first | refine Wend _ ?_ | refine AW_seq ?_ | refine AW_reg ?_ | refine AW_drw mixed ?_ | refine AW_block ?_ | refine AW_scope ?_ | refine thenA_n ?_ | refine blockA_n ?_ | refine blockA_h ?_ | refine scopeA_n ?_ | refine thenA_r ?_ | refine blockA_r ?_ | refine scopeA_r ?_ | refine thenA_e ?_ | refine scopeA_e ?_ | refine blockA_e rfl ?_ | refine AW_exit ?_ | refine AW_ret ?_ | refine AW_skip ?_ | refine AW_c rfl ?_ | with_reducible refine cb_t ?_ | with_reducible refine cb_f ?_ | with_reducible refine cb_yes (by first | assumption | omega) ?_ | with_reducible refine cb_no (by first | assumption | omega) ?_ | refine And.intro (by decide +kernel) ?_) | (first | (apply Wv; (focus (first | exact step_ok rfl rfl | exact o_idx rfl rfl rfl rfl (by first | assumption | omega | decide) | exact o_idx3 rfl rfl rfl rfl (by first | assumption | omega | decide) | exact o_idx2 rfl rfl rfl rfl rfl (by first | assumption | omega | decide) | exact o_idxr rfl rfl rfl rfl rfl rfl | exact o_lenm rfl rfl rfl | exact o_len rfl rfl rfl | exact o_len0 rfl rfl rfl | exact o_lens rfl rfl rfl | exact o_lent rfl rfl | exact o_add1 rfl rfl rfl (by omega) | exact o_addn rfl rfl rfl (by omega) | exact o_add rfl rfl rfl (by omega) | exact o_sub1 rfl rfl rfl (by omega) | exact o_sub rfl rfl rfl (by omega) | exact o_mul rfl rfl rfl (by omega) | exact o_rem rfl rfl rfl (by omega) | exact ok_rem rfl rfl rfl (by decide) rfl | exact o_eqKey rfl rfl rfl | exact o_neKey rfl rfl rfl | exact o_eqVl rfl rfl rfl | exact o_neVl rfl rfl rfl | exact o_eqEnt rfl rfl rfl | exact o_neEnt rfl rfl rfl | exact o_eqMsg rfl rfl rfl | exact o_neMsg rfl rfl rfl | exact o_acall rfl rfl rfl rfl (by assumption) | exact o_minn rfl rfl rfl | exact o_cutl rfl rfl rfl rfl (by omega) | exact o_cuth rfl rfl rfl rfl (by omega) | exact o_cutl3 rfl rfl rfl rfl (by omega) | exact o_cuth3 rfl rfl rfl rfl (by omega) | exact o_cutl2 rfl rfl rfl rfl rfl (by omega) | exact o_cuth2 rfl rfl rfl rfl rfl (by omega) | exact o_cutlh2 rfl rfl rfl rfl rfl rfl rfl (by omega) (by omega) | exact e_bld rfl rfl rfl | exact e_bldk rfl rfl | exact z_bld0 rfl rfl rfl rfl rfl | exact z_bld rfl rfl rfl rfl rfl rfl rfl | exact o_addu rfl rfl rfl | exact z_blda rfl rfl rfl rfl rfl rfl rfl rfl rfl | exact o_idxa rfl rfl rfl rfl rfl rfl | exact o_idxra rfl rfl rfl rfl rfl rfl rfl | exact o_quo2 rfl rfl rfl (by omega) | exact o_quo rfl rfl rfl (by omega))); (focus (first | exact want_n | exact want_g rfl (by with_reducible rfl)))) | (apply Wb; (focus (first | exact o_box rfl rfl rfl rfl | exact o_app rfl rfl rfl rfl rfl (by first | exact o_many rfl | exact o_one _ _ rfl) (by first | omega | (simp; omega) | simp) (by first | omega | (simp; omega) | simp) | exact o_appn rfl rfl rfl rfl rfl (by first | exact o_many rfl | exact o_one _ _ rfl) (by first | omega | (simp; omega) | simp) (by first | omega | (simp; omega) | simp) | exact o_app1 rfl rfl rfl rfl rfl (by first | exact o_many rfl | exact o_one _ _ rfl) (by exact rfl) (by first | omega | (simp; omega) | simp) (by first | omega | (simp; omega) | simp) | exact o_app0 rfl rfl rfl rfl rfl (by first | exact o_many rfl | exact o_one _ _ rfl) (by first | omega | (simp; omega) | simp) (by first | omega | (simp; omega) | simp) | exact o_bsl0 rfl rfl rfl | exact z_bsll rfl rfl rfl rfl rfl rfl rfl rfl rfl | exact z_alloc rfl rfl rfl)); (focus (first | exact want_n | exact want_g rfl (by with_reducible rfl)))) | (apply Ws; (focus (exact ok_store tabT (d := none) rfl rfl rfl rfl rfl rfl rfl rfl rfl rfl)); (focus (first | exact want_n | exact want_g rfl (by with_reducible rfl)))) | (refine Wskip (by first | exact want_f rfl (by with_reducible exact b_nt) | exact want_f rfl (by with_reducible exact b_nf) | exact want_t rfl) rfl ?_) | refine Wgt rfl rfl (by first | assumption | omega | exact rfl) ?_ | refine Wgf rfl rfl (by first | assumption | omega | exact rfl) ?_ | (refine Wgb rfl rfl (by with_reducible assumption) ?_) | (refine cb_is _ (by assumption) ?_)))
    refine ⟨j + 1, c, by omega, ?_⟩
    (refine Go2.sub ⟨?_, ?_⟩ <;> repeat' (first | exact True.intro | rfl | apply And.intro))
  · repeat (first | (first | refine Wend _ ?_ | refine AW_seq ?_ | refine AW_reg ?_ | refine AW_drw mixed ?_ | refine AW_block ?_ | refine AW_scope ?_ | refine thenA_n ?_ | refine blockA_n ?_ | refine blockA_h ?_ | refine scopeA_n ?_ | refine thenA_r ?_ | refine blockA_r ?_ | refine scopeA_r ?_ | refine thenA_e ?_ | refine scopeA_e ?_ | refine blockA_e rfl ?_ | refine AW_exit ?_ | refine AW_ret ?_ | refine AW_skip ?_ | refine AW_c rfl ?_ | with_reducible refine cb_t ?_ | with_reducible refine cb_f ?_ | with_reducible refine cb_yes (by first | assumption | omega) ?_ | with_reducible refine cb_no (by first | assumption | omega) ?_ | refine And.intro (by decide +kernel) ?_) | (first | (apply Wv; (focus (first | exact step_ok rfl rfl | exact o_idx rfl rfl rfl rfl (by first | assumption | omega | decide) | exact o_idx3 rfl rfl rfl rfl (by first | assumption | omega | decide) | exact o_idx2 rfl rfl rfl rfl rfl (by first | assumption | omega | decide) | exact o_idxr rfl rfl rfl rfl rfl rfl | exact o_lenm rfl rfl rfl | exact o_len rfl rfl rfl | exact o_len0 rfl rfl rfl | exact o_lens rfl rfl rfl | exact o_lent rfl rfl | exact o_add1 rfl rfl rfl (by omega) | exact o_addn rfl rfl rfl (by omega) | exact o_add rfl rfl rfl (by omega) | exact o_sub1 rfl rfl rfl (by omega) | exact o_sub rfl rfl rfl (by omega) | exact o_mul rfl rfl rfl (by omega) | exact o_rem rfl rfl rfl (by omega) | exact ok_rem rfl rfl rfl (by decide) rfl | exact o_eqKey rfl rfl rfl | exact o_neKey rfl rfl rfl | exact o_eqVl rfl rfl rfl | exact o_neVl rfl rfl rfl | exact o_eqEnt rfl rfl rfl | exact o_neEnt rfl rfl rfl | exact o_eqMsg rfl rfl rfl | exact o_neMsg rfl rfl rfl | exact o_acall rfl rfl rfl rfl (by assumption) | exact o_minn rfl rfl rfl | exact o_cutl rfl rfl rfl rfl (by omega) | exact o_cuth rfl rfl rfl rfl (by omega) | exact o_cutl3 rfl rfl rfl rfl (by omega) | exact o_cuth3 rfl rfl rfl rfl (by omega) | exact o_cutl2 rfl rfl rfl rfl rfl (by omega) | exact o_cuth2 rfl rfl rfl rfl rfl (by omega) | exact o_cutlh2 rfl rfl rfl rfl rfl rfl rfl (by omega) (by omega) | exact e_bld rfl rfl rfl | exact e_bldk rfl rfl | exact z_bld0 rfl rfl rfl rfl rfl | exact z_bld rfl rfl rfl rfl rfl rfl rfl | exact o_addu rfl rfl rfl | exact z_blda rfl rfl rfl rfl rfl rfl rfl rfl rfl | exact o_idxa rfl rfl rfl rfl rfl rfl | exact o_idxra rfl rfl rfl rfl rfl rfl rfl | exact o_quo2 rfl rfl rfl (by omega) | exact o_quo rfl rfl rfl (by omega))); (focus (first | exact want_n | exact want_g rfl (by with_reducible rfl)))) | (apply Wb; (focus (first | exact o_box rfl rfl rfl rfl | exact o_app rfl rfl rfl rfl rfl (by first | exact o_many rfl | exact o_one _ _ rfl) (by first | omega | (simp; omega) | simp) (by first | omega | (simp; omega) | simp) | exact o_appn rfl rfl rfl rfl rfl (by first | exact o_many rfl | exact o_one _ _ rfl) (by first | omega | (simp; omega) | simp) (by first | omega | (simp; omega) | simp) | exact o_app1 rfl rfl rfl rfl rfl (by first | exact o_many rfl | exact o_one _ _ rfl) (by exact rfl) (by first | omega | (simp; omega) | simp) (by first | omega | (simp; omega) | simp) | exact o_app0 rfl rfl rfl rfl rfl (by first | exact o_many rfl | exact o_one _ _ rfl) (by first | omega | (simp; omega) | simp) (by first | omega | (simp; omega) | simp) | exact o_bsl0 rfl rfl rfl | exact z_bsll rfl rfl rfl rfl rfl rfl rfl rfl rfl | exact z_alloc rfl rfl rfl)); (focus (first | exact want_n | exact want_g rfl (by with_reducible rfl)))) | (apply Ws; (focus (exact ok_store tabT (d := none) rfl rfl rfl rfl rfl rfl rfl rfl rfl rfl)); (focus (first | exact want_n | exact want_g rfl (by with_reducible rfl)))) | (refine Wskip (by first | exact want_f rfl (by with_reducible exact b_nt) | exact want_f rfl (by with_reducible exact b_nf) | exact want_t rfl) rfl ?_) | refine Wgt rfl rfl (by first | assumption | omega | exact rfl) ?_ | refine Wgf rfl rfl (by first | assumption | omega | exact rfl) ?_ | (refine Wgb rfl rfl (by with_reducible assumption) ?_) | (refine cb_is _ (by assumption) ?_)))
    exact fin ⟨res_of rfl rfl rfl, trivial⟩
end Go.Proofs.Ytigbkhjcboecjaa

namespace Go.Proofs.Ytigbkhjcboecjaa
open Go Go.RowKit
set_option linter.unusedVariables false
set_option linter.unusedSimpArgs false

def entMsg (x : Int) : Msg := ⟨1, 0#64, lawKey (x % 1099511627776), lawVl (x % 1099511627776 / 16), 0#64⟩
theorem entMsg_ok (x : Int) : (entMsg x).ok = true := by
  unfold Msg.ok entMsg
  simp [lawKey_ok, lawVl_ok]
def entStep (most : Int) (out : List Ent) (x : Int) : List Ent := if eSum (lfPut out (entMsg x)) ≤ most then lfPut out (entMsg x) else out
def entsF (l : List Int) (most : Int) (j : Nat) : List Ent := (l.take j).foldl (entStep most) []
def entList (l : List Int) (most : Int) : List Ent := entsF l most 80
theorem entsF_snoc (l : List Int) (most : Int) (j : Nat) (h : j < l.length) : entsF l most (j + 1) = entStep most (entsF l most j) l[j] := by
  unfold entsF
  rw [← List.take_append_getElem h, List.foldl_append]
  rfl
theorem entStep_lf {most : Int} {out : List Ent} {x : Int} (h : Lf out) : Lf (entStep most out x) := by
  unfold entStep
  split
  · exact lf_put h (entMsg_ok x)
  · exact h
theorem entsF_lf (l : List Int) (most : Int) : ∀ j, Lf (entsF l most j) := by
  unfold entsF
  intro j
  have : ∀ (xs : List Int) (out : List Ent), Lf out → Lf (xs.foldl (entStep most) out) := by
    intro xs
    induction xs with
    | nil => intro out h; exact h
    | cons x xs ih => intro out h; exact ih _ (entStep_lf h)
  exact this _ _ lf_nil
theorem entsF_len (l : List Int) (most : Int) (j : Nat) : (entsF l most j).length ≤ j := by
  unfold entsF
  have : ∀ (xs : List Int) (out : List Ent), (xs.foldl (entStep most) out).length ≤ out.length + xs.length := by
    intro xs
    induction xs with
    | nil => intro out; simp
    | cons x xs ih =>
      intro out
      have h1 := ih (entStep most out x)
      have h2 : (entStep most out x).length ≤ out.length + 1 := by
        unfold entStep
        split
        · exact put_len _ _
        · omega
      simp only [List.foldl_cons, List.length_cons]
      omega
  have h := this (l.take j) []
  simp only [List.length_nil, List.length_take] at h
  omega
theorem entsF_sum (l : List Int) (most : Int) (h0 : 0 ≤ most) (j : Nat) : eSum (entsF l most j) ≤ most := by
  unfold entsF
  have : ∀ (xs : List Int) (out : List Ent), eSum out ≤ most → eSum (xs.foldl (entStep most) out) ≤ most := by
    intro xs
    induction xs with
    | nil => intro out h; exact h
    | cons x xs ih =>
      intro out h
      refine ih _ ?_
      unfold entStep
      split
      · assumption
      · exact h
  exact this _ _ h0
theorem entList_end (l : List Int) (most : Int) (j : Nat) (h : j = 80 ∨ (j = l.length ∧ j ≤ 80)) : entsF l most j = entList l most := by
  unfold entList entsF
  rcases h with h | ⟨h1, h2⟩
  · rw [h]
  · rw [List.take_of_length_le (by omega), List.take_of_length_le (by omega)]
theorem entList_lf (l : List Int) (most : Int) : Lf (entList l most) := entsF_lf l most 80
theorem entList_len (l : List Int) (most : Int) : (entList l most).length ≤ 80 := entsF_len l most 80
attribute [local irreducible] OpOK AWops AW CondB Go2 AFn thenA inBlockA noGotoA orderOk wantedA
set_option maxRecDepth 100000 in
set_option maxHeartbeats 8000000 in
theorem a_entries (l : List Int) (most : Int) (hb : ∀ n ∈ l, -9223372036854775808 ≤ n ∧ n ≤ 9223372036854775807) : AFn Try.prog 34 [intsA l, intA most] (entsA (entList l most)) := by
  refine AFn_intro Try.func34 rfl Try.ntmps34 rfl (by simp) [_] rfl fun E hE => ?_
  repeat (first | (first | refine Wend _ ?_ | refine AW_seq ?_ | refine AW_reg ?_ | refine AW_drw mixed ?_ | refine AW_block ?_ | refine AW_scope ?_ | refine thenA_n ?_ | refine blockA_n ?_ | refine blockA_h ?_ | refine scopeA_n ?_ | refine thenA_r ?_ | refine blockA_r ?_ | refine scopeA_r ?_ | refine thenA_e ?_ | refine scopeA_e ?_ | refine blockA_e rfl ?_ | refine AW_exit ?_ | refine AW_ret ?_ | refine AW_skip ?_ | refine AW_c rfl ?_ | with_reducible refine cb_t ?_ | with_reducible refine cb_f ?_ | with_reducible refine cb_yes (by first | assumption | omega) ?_ | with_reducible refine cb_no (by first | assumption | omega) ?_ | refine And.intro (by decide +kernel) ?_) | (first | (apply Wv; (focus (first | exact step_ok rfl rfl | exact o_idx rfl rfl rfl rfl (by first | assumption | omega | decide) | exact o_idx3 rfl rfl rfl rfl (by first | assumption | omega | decide) | exact o_idx2 rfl rfl rfl rfl rfl (by first | assumption | omega | decide) | exact o_idxr rfl rfl rfl rfl rfl rfl | exact o_lenm rfl rfl rfl | exact o_len rfl rfl rfl | exact o_len0 rfl rfl rfl | exact o_lens rfl rfl rfl | exact o_lent rfl rfl | exact o_add1 rfl rfl rfl (by omega) | exact o_addn rfl rfl rfl (by omega) | exact o_add rfl rfl rfl (by omega) | exact o_sub1 rfl rfl rfl (by omega) | exact o_sub rfl rfl rfl (by omega) | exact o_mul rfl rfl rfl (by omega) | exact o_rem rfl rfl rfl (by omega) | exact ok_rem rfl rfl rfl (by decide) rfl | exact o_eqKey rfl rfl rfl | exact o_neKey rfl rfl rfl | exact o_eqVl rfl rfl rfl | exact o_neVl rfl rfl rfl | exact o_eqEnt rfl rfl rfl | exact o_neEnt rfl rfl rfl | exact o_eqMsg rfl rfl rfl | exact o_neMsg rfl rfl rfl | exact o_acall rfl rfl rfl rfl (by assumption) | exact o_minn rfl rfl rfl | exact o_cutl rfl rfl rfl rfl (by omega) | exact o_cuth rfl rfl rfl rfl (by omega) | exact o_cutl3 rfl rfl rfl rfl (by omega) | exact o_cuth3 rfl rfl rfl rfl (by omega) | exact o_cutl2 rfl rfl rfl rfl rfl (by omega) | exact o_cuth2 rfl rfl rfl rfl rfl (by omega) | exact o_cutlh2 rfl rfl rfl rfl rfl rfl rfl (by omega) (by omega) | exact e_bld rfl rfl rfl | exact e_bldk rfl rfl | exact z_bld0 rfl rfl rfl rfl rfl | exact z_bld rfl rfl rfl rfl rfl rfl rfl | exact o_addu rfl rfl rfl | exact z_blda rfl rfl rfl rfl rfl rfl rfl rfl rfl | exact o_idxa rfl rfl rfl rfl rfl rfl | exact o_idxra rfl rfl rfl rfl rfl rfl rfl | exact o_quo2 rfl rfl rfl (by omega) | exact o_quo rfl rfl rfl (by omega))); (focus (first | exact want_n | exact want_g rfl (by with_reducible rfl)))) | (apply Wb; (focus (first | exact o_box rfl rfl rfl rfl | exact o_app rfl rfl rfl rfl rfl (by first | exact o_many rfl | exact o_one _ _ rfl) (by first | omega | (simp; omega) | simp) (by first | omega | (simp; omega) | simp) | exact o_appn rfl rfl rfl rfl rfl (by first | exact o_many rfl | exact o_one _ _ rfl) (by first | omega | (simp; omega) | simp) (by first | omega | (simp; omega) | simp) | exact o_app1 rfl rfl rfl rfl rfl (by first | exact o_many rfl | exact o_one _ _ rfl) (by exact rfl) (by first | omega | (simp; omega) | simp) (by first | omega | (simp; omega) | simp) | exact o_app0 rfl rfl rfl rfl rfl (by first | exact o_many rfl | exact o_one _ _ rfl) (by first | omega | (simp; omega) | simp) (by first | omega | (simp; omega) | simp) | exact o_bsl0 rfl rfl rfl | exact z_bsll rfl rfl rfl rfl rfl rfl rfl rfl rfl | exact z_alloc rfl rfl rfl)); (focus (first | exact want_n | exact want_g rfl (by with_reducible rfl)))) | (apply Ws; (focus (exact ok_store tabT (d := none) rfl rfl rfl rfl rfl rfl rfl rfl rfl rfl)); (focus (first | exact want_n | exact want_g rfl (by with_reducible rfl)))) | (refine Wskip (by first | exact want_f rfl (by with_reducible exact b_nt) | exact want_f rfl (by with_reducible exact b_nf) | exact want_t rfl) rfl ?_) | refine Wgt rfl rfl (by first | assumption | omega | exact rfl) ?_ | refine Wgf rfl rfl (by first | assumption | omega | exact rfl) ?_ | (refine Wgb rfl rfl (by with_reducible assumption) ?_) | (refine cb_is _ (by assumption) ?_)))
  refine AW_go (Go2.nil 5 26 rfl) ?_
  refine AW_loopI (fun j : Nat => ⟨[(0, intsA l), (1, intA most), (5, entsA (entsF l most j)), (6, intA j)], []⟩) (fun j => j ≤ l.length ∧ j ≤ 80) (fun j => l.length - j) 0 ⟨Nat.zero_le _, by omega⟩ (by (refine Go2.sub ⟨?_, ?_⟩ <;> repeat' (first | exact True.intro | rfl | apply And.intro))) (fun j hj => ?_)
  obtain ⟨j1, j2⟩ := hj
  by_cases c : j < l.length
  · by_cases q : j < 80
    · have hx := hb l[j] (List.getElem_mem c)
      have hs := entsF_snoc l most j c
      have hlf := entsF_lf l most j
      have hlen := entsF_len l most j
      have hlf2 := lf_put hlf (entMsg_ok l[j])
      have hlen2 := put_len (entsF l most j) (entMsg l[j])
      have hm := a_ref07put (entsF l most j) (entMsg l[j]) hlf (Msg.spec (entMsg_ok l[j])).2.2.1 (by omega)
      have hy := a_ref07bytes (lfPut (entsF l most j) (entMsg l[j])) hlf2.ok.bd (by omega)
      have k0 := Int.emod_nonneg l[j] (show (1099511627776 : Int) ≠ 0 by omega)
      have k1 := Int.emod_lt_of_pos l[j] (show (0 : Int) < 1099511627776 by omega)
      unfold entStep at hs
      unfold entMsg at hm hy hs
      have p1 := a_lplace l[j] 1099511627776 (by omega) (by omega) hx
      generalize l[j] % 1099511627776 = k at p1 k0 k1 hm hy hs
      have p2 := a_lkey k (by omega)
      have p3 := a_lval (k / 16) (by omega)
      generalize lfPut (entsF l most j) ⟨1, 0#64, lawKey k, lawVl (k / 16), 0#64⟩ = more at hm hy hs
      have d1 := acall Try.func37 (p1) (by decide +kernel) (by decide +kernel)
      have d2 := acall Try.func11 (p2) (by decide +kernel) (by decide +kernel)
      have d3 := acall Try.func40 (p3) (by decide +kernel) (by decide +kernel)
      have d4 := acall Try.func51 (hm) (by decide +kernel) (by decide +kernel)
      have d5 := acall Try.func52 (hy) (by decide +kernel) (by decide +kernel)
      by_cases z : eSum more ≤ most
      · rw [if_pos z] at hs
        repeat (first | (first | refine Wend _ ?_ | refine AW_seq ?_ | refine AW_reg ?_ | refine AW_drw mixed ?_ | refine AW_block ?_ | refine AW_scope ?_ | refine thenA_n ?_ | refine blockA_n ?_ | refine blockA_h ?_ | refine scopeA_n ?_ | refine thenA_r ?_ | refine blockA_r ?_ | refine scopeA_r ?_ | refine thenA_e ?_ | refine scopeA_e ?_ | refine blockA_e rfl ?_ | refine AW_exit ?_ | refine AW_ret ?_ | refine AW_skip ?_ | refine AW_c rfl ?_ | with_reducible refine cb_t ?_ | with_reducible refine cb_f ?_ | with_reducible refine cb_yes (by first | assumption | omega) ?_ | with_reducible refine cb_no (by first | assumption | omega) ?_ | refine And.intro (by decide +kernel) ?_) | (first | (apply Wv; (focus (first | exact step_ok rfl rfl | exact o_idx rfl rfl rfl rfl (by first | assumption | omega | decide) | exact o_idx3 rfl rfl rfl rfl (by first | assumption | omega | decide) | exact o_idx2 rfl rfl rfl rfl rfl (by first | assumption | omega | decide) | exact o_idxr rfl rfl rfl rfl rfl rfl | exact o_lenm rfl rfl rfl | exact o_len rfl rfl rfl | exact o_len0 rfl rfl rfl | exact o_lens rfl rfl rfl | exact o_lent rfl rfl | exact o_add1 rfl rfl rfl (by omega) | exact o_addn rfl rfl rfl (by omega) | exact o_add rfl rfl rfl (by omega) | exact o_sub1 rfl rfl rfl (by omega) | exact o_sub rfl rfl rfl (by omega) | exact o_mul rfl rfl rfl (by omega) | exact o_rem rfl rfl rfl (by omega) | exact ok_rem rfl rfl rfl (by decide) rfl | exact o_eqKey rfl rfl rfl | exact o_neKey rfl rfl rfl | exact o_eqVl rfl rfl rfl | exact o_neVl rfl rfl rfl | exact o_eqEnt rfl rfl rfl | exact o_neEnt rfl rfl rfl | exact o_eqMsg rfl rfl rfl | exact o_neMsg rfl rfl rfl | exact o_acall rfl rfl rfl rfl (by assumption) | exact o_minn rfl rfl rfl | exact o_cutl rfl rfl rfl rfl (by omega) | exact o_cuth rfl rfl rfl rfl (by omega) | exact o_cutl3 rfl rfl rfl rfl (by omega) | exact o_cuth3 rfl rfl rfl rfl (by omega) | exact o_cutl2 rfl rfl rfl rfl rfl (by omega) | exact o_cuth2 rfl rfl rfl rfl rfl (by omega) | exact o_cutlh2 rfl rfl rfl rfl rfl rfl rfl (by omega) (by omega) | exact e_bld rfl rfl rfl | exact e_bldk rfl rfl | exact z_bld0 rfl rfl rfl rfl rfl | exact z_bld rfl rfl rfl rfl rfl rfl rfl | exact o_addu rfl rfl rfl | exact z_blda rfl rfl rfl rfl rfl rfl rfl rfl rfl | exact o_idxa rfl rfl rfl rfl rfl rfl | exact o_idxra rfl rfl rfl rfl rfl rfl rfl | exact o_quo2 rfl rfl rfl (by omega) | exact o_quo rfl rfl rfl (by omega))); (focus (first | exact want_n | exact want_g rfl (by with_reducible rfl)))) | (apply Wb; (focus (first | exact o_box rfl rfl rfl rfl | exact o_app rfl rfl rfl rfl rfl (by first | exact o_many rfl | exact o_one _ _ rfl) (by first | omega | (simp; omega) | simp) (by first | omega | (simp; omega) | simp) | exact o_appn rfl rfl rfl rfl rfl (by first | exact o_many rfl | exact o_one _ _ rfl) (by first | omega | (simp; omega) | simp) (by first | omega | (simp; omega) | simp) | exact o_app1 rfl rfl rfl rfl rfl (by first | exact o_many rfl | exact o_one _ _ rfl) (by exact rfl) (by first | omega | (simp; omega) | simp) (by first | omega | (simp; omega) | simp) | exact o_app0 rfl rfl rfl rfl rfl (by first | exact o_many rfl | exact o_one _ _ rfl) (by first | omega | (simp; omega) | simp) (by first | omega | (simp; omega) | simp) | exact o_bsl0 rfl rfl rfl | exact z_bsll rfl rfl rfl rfl rfl rfl rfl rfl rfl | exact z_alloc rfl rfl rfl)); (focus (first | exact want_n | exact want_g rfl (by with_reducible rfl)))) | (apply Ws; (focus (exact ok_store tabT (d := none) rfl rfl rfl rfl rfl rfl rfl rfl rfl rfl)); (focus (first | exact want_n | exact want_g rfl (by with_reducible rfl)))) | (refine Wskip (by first | exact want_f rfl (by with_reducible exact b_nt) | exact want_f rfl (by with_reducible exact b_nf) | exact want_t rfl) rfl ?_) | refine Wgt rfl rfl (by first | assumption | omega | exact rfl) ?_ | refine Wgf rfl rfl (by first | assumption | omega | exact rfl) ?_ | (refine Wgb rfl rfl (by with_reducible assumption) ?_) | (refine cb_is _ (by assumption) ?_)))
        refine ⟨j + 1, ⟨c, q⟩, by omega, ?_⟩
        rw [hs]
        (refine Go2.sub ⟨?_, ?_⟩ <;> repeat' (first | exact True.intro | rfl | apply And.intro))
      · rw [if_neg z] at hs
        repeat (first | (first | refine Wend _ ?_ | refine AW_seq ?_ | refine AW_reg ?_ | refine AW_drw mixed ?_ | refine AW_block ?_ | refine AW_scope ?_ | refine thenA_n ?_ | refine blockA_n ?_ | refine blockA_h ?_ | refine scopeA_n ?_ | refine thenA_r ?_ | refine blockA_r ?_ | refine scopeA_r ?_ | refine thenA_e ?_ | refine scopeA_e ?_ | refine blockA_e rfl ?_ | refine AW_exit ?_ | refine AW_ret ?_ | refine AW_skip ?_ | refine AW_c rfl ?_ | with_reducible refine cb_t ?_ | with_reducible refine cb_f ?_ | with_reducible refine cb_yes (by first | assumption | omega) ?_ | with_reducible refine cb_no (by first | assumption | omega) ?_ | refine And.intro (by decide +kernel) ?_) | (first | (apply Wv; (focus (first | exact step_ok rfl rfl | exact o_idx rfl rfl rfl rfl (by first | assumption | omega | decide) | exact o_idx3 rfl rfl rfl rfl (by first | assumption | omega | decide) | exact o_idx2 rfl rfl rfl rfl rfl (by first | assumption | omega | decide) | exact o_idxr rfl rfl rfl rfl rfl rfl | exact o_lenm rfl rfl rfl | exact o_len rfl rfl rfl | exact o_len0 rfl rfl rfl | exact o_lens rfl rfl rfl | exact o_lent rfl rfl | exact o_add1 rfl rfl rfl (by omega) | exact o_addn rfl rfl rfl (by omega) | exact o_add rfl rfl rfl (by omega) | exact o_sub1 rfl rfl rfl (by omega) | exact o_sub rfl rfl rfl (by omega) | exact o_mul rfl rfl rfl (by omega) | exact o_rem rfl rfl rfl (by omega) | exact ok_rem rfl rfl rfl (by decide) rfl | exact o_eqKey rfl rfl rfl | exact o_neKey rfl rfl rfl | exact o_eqVl rfl rfl rfl | exact o_neVl rfl rfl rfl | exact o_eqEnt rfl rfl rfl | exact o_neEnt rfl rfl rfl | exact o_eqMsg rfl rfl rfl | exact o_neMsg rfl rfl rfl | exact o_acall rfl rfl rfl rfl (by assumption) | exact o_minn rfl rfl rfl | exact o_cutl rfl rfl rfl rfl (by omega) | exact o_cuth rfl rfl rfl rfl (by omega) | exact o_cutl3 rfl rfl rfl rfl (by omega) | exact o_cuth3 rfl rfl rfl rfl (by omega) | exact o_cutl2 rfl rfl rfl rfl rfl (by omega) | exact o_cuth2 rfl rfl rfl rfl rfl (by omega) | exact o_cutlh2 rfl rfl rfl rfl rfl rfl rfl (by omega) (by omega) | exact e_bld rfl rfl rfl | exact e_bldk rfl rfl | exact z_bld0 rfl rfl rfl rfl rfl | exact z_bld rfl rfl rfl rfl rfl rfl rfl | exact o_addu rfl rfl rfl | exact z_blda rfl rfl rfl rfl rfl rfl rfl rfl rfl | exact o_idxa rfl rfl rfl rfl rfl rfl | exact o_idxra rfl rfl rfl rfl rfl rfl rfl | exact o_quo2 rfl rfl rfl (by omega) | exact o_quo rfl rfl rfl (by omega))); (focus (first | exact want_n | exact want_g rfl (by with_reducible rfl)))) | (apply Wb; (focus (first | exact o_box rfl rfl rfl rfl | exact o_app rfl rfl rfl rfl rfl (by first | exact o_many rfl | exact o_one _ _ rfl) (by first | omega | (simp; omega) | simp) (by first | omega | (simp; omega) | simp) | exact o_appn rfl rfl rfl rfl rfl (by first | exact o_many rfl | exact o_one _ _ rfl) (by first | omega | (simp; omega) | simp) (by first | omega | (simp; omega) | simp) | exact o_app1 rfl rfl rfl rfl rfl (by first | exact o_many rfl | exact o_one _ _ rfl) (by exact rfl) (by first | omega | (simp; omega) | simp) (by first | omega | (simp; omega) | simp) | exact o_app0 rfl rfl rfl rfl rfl (by first | exact o_many rfl | exact o_one _ _ rfl) (by first | omega | (simp; omega) | simp) (by first | omega | (simp; omega) | simp) | exact o_bsl0 rfl rfl rfl | exact z_bsll rfl rfl rfl rfl rfl rfl rfl rfl rfl | exact z_alloc rfl rfl rfl)); (focus (first | exact want_n | exact want_g rfl (by with_reducible rfl)))) | (apply Ws; (focus (exact ok_store tabT (d := none) rfl rfl rfl rfl rfl rfl rfl rfl rfl rfl)); (focus (first | exact want_n | exact want_g rfl (by with_reducible rfl)))) | (refine Wskip (by first | exact want_f rfl (by with_reducible exact b_nt) | exact want_f rfl (by with_reducible exact b_nf) | exact want_t rfl) rfl ?_) | refine Wgt rfl rfl (by first | assumption | omega | exact rfl) ?_ | refine Wgf rfl rfl (by first | assumption | omega | exact rfl) ?_ | (refine Wgb rfl rfl (by with_reducible assumption) ?_) | (refine cb_is _ (by assumption) ?_)))
        refine ⟨j + 1, ⟨c, q⟩, by omega, ?_⟩
        rw [hs]
        (refine Go2.sub ⟨?_, ?_⟩ <;> repeat' (first | exact True.intro | rfl | apply And.intro))
    · rw [← entList_end l most j (.inl (by omega))]
      repeat (first | (first | refine Wend _ ?_ | refine AW_seq ?_ | refine AW_reg ?_ | refine AW_drw mixed ?_ | refine AW_block ?_ | refine AW_scope ?_ | refine thenA_n ?_ | refine blockA_n ?_ | refine blockA_h ?_ | refine scopeA_n ?_ | refine thenA_r ?_ | refine blockA_r ?_ | refine scopeA_r ?_ | refine thenA_e ?_ | refine scopeA_e ?_ | refine blockA_e rfl ?_ | refine AW_exit ?_ | refine AW_ret ?_ | refine AW_skip ?_ | refine AW_c rfl ?_ | with_reducible refine cb_t ?_ | with_reducible refine cb_f ?_ | with_reducible refine cb_yes (by first | assumption | omega) ?_ | with_reducible refine cb_no (by first | assumption | omega) ?_ | refine And.intro (by decide +kernel) ?_) | (first | (apply Wv; (focus (first | exact step_ok rfl rfl | exact o_idx rfl rfl rfl rfl (by first | assumption | omega | decide) | exact o_idx3 rfl rfl rfl rfl (by first | assumption | omega | decide) | exact o_idx2 rfl rfl rfl rfl rfl (by first | assumption | omega | decide) | exact o_idxr rfl rfl rfl rfl rfl rfl | exact o_lenm rfl rfl rfl | exact o_len rfl rfl rfl | exact o_len0 rfl rfl rfl | exact o_lens rfl rfl rfl | exact o_lent rfl rfl | exact o_add1 rfl rfl rfl (by omega) | exact o_addn rfl rfl rfl (by omega) | exact o_add rfl rfl rfl (by omega) | exact o_sub1 rfl rfl rfl (by omega) | exact o_sub rfl rfl rfl (by omega) | exact o_mul rfl rfl rfl (by omega) | exact o_rem rfl rfl rfl (by omega) | exact ok_rem rfl rfl rfl (by decide) rfl | exact o_eqKey rfl rfl rfl | exact o_neKey rfl rfl rfl | exact o_eqVl rfl rfl rfl | exact o_neVl rfl rfl rfl | exact o_eqEnt rfl rfl rfl | exact o_neEnt rfl rfl rfl | exact o_eqMsg rfl rfl rfl | exact o_neMsg rfl rfl rfl | exact o_acall rfl rfl rfl rfl (by assumption) | exact o_minn rfl rfl rfl | exact o_cutl rfl rfl rfl rfl (by omega) | exact o_cuth rfl rfl rfl rfl (by omega) | exact o_cutl3 rfl rfl rfl rfl (by omega) | exact o_cuth3 rfl rfl rfl rfl (by omega) | exact o_cutl2 rfl rfl rfl rfl rfl (by omega) | exact o_cuth2 rfl rfl rfl rfl rfl (by omega) | exact o_cutlh2 rfl rfl rfl rfl rfl rfl rfl (by omega) (by omega) | exact e_bld rfl rfl rfl | exact e_bldk rfl rfl | exact z_bld0 rfl rfl rfl rfl rfl | exact z_bld rfl rfl rfl rfl rfl rfl rfl | exact o_addu rfl rfl rfl | exact z_blda rfl rfl rfl rfl rfl rfl rfl rfl rfl | exact o_idxa rfl rfl rfl rfl rfl rfl | exact o_idxra rfl rfl rfl rfl rfl rfl rfl | exact o_quo2 rfl rfl rfl (by omega) | exact o_quo rfl rfl rfl (by omega))); (focus (first | exact want_n | exact want_g rfl (by with_reducible rfl)))) | (apply Wb; (focus (first | exact o_box rfl rfl rfl rfl | exact o_app rfl rfl rfl rfl rfl (by first | exact o_many rfl | exact o_one _ _ rfl) (by first | omega | (simp; omega) | simp) (by first | omega | (simp; omega) | simp) | exact o_appn rfl rfl rfl rfl rfl (by first | exact o_many rfl | exact o_one _ _ rfl) (by first | omega | (simp; omega) | simp) (by first | omega | (simp; omega) | simp) | exact o_app1 rfl rfl rfl rfl rfl (by first | exact o_many rfl | exact o_one _ _ rfl) (by exact rfl) (by first | omega | (simp; omega) | simp) (by first | omega | (simp; omega) | simp) | exact o_app0 rfl rfl rfl rfl rfl (by first | exact o_many rfl | exact o_one _ _ rfl) (by first | omega | (simp; omega) | simp) (by first | omega | (simp; omega) | simp) | exact o_bsl0 rfl rfl rfl | exact z_bsll rfl rfl rfl rfl rfl rfl rfl rfl rfl | exact z_alloc rfl rfl rfl)); (focus (first | exact want_n | exact want_g rfl (by with_reducible rfl)))) | (apply Ws; (focus (exact ok_store tabT (d := none) rfl rfl rfl rfl rfl rfl rfl rfl rfl rfl)); (focus (first | exact want_n | exact want_g rfl (by with_reducible rfl)))) | (refine Wskip (by first | exact want_f rfl (by with_reducible exact b_nt) | exact want_f rfl (by with_reducible exact b_nf) | exact want_t rfl) rfl ?_) | refine Wgt rfl rfl (by first | assumption | omega | exact rfl) ?_ | refine Wgf rfl rfl (by first | assumption | omega | exact rfl) ?_ | (refine Wgb rfl rfl (by with_reducible assumption) ?_) | (refine cb_is _ (by assumption) ?_)))
      exact fin ⟨res_sl rfl, trivial⟩
  · rw [← entList_end l most j (.inr ⟨by omega, j2⟩)]
    repeat (first | (first | refine Wend _ ?_ | refine AW_seq ?_ | refine AW_reg ?_ | refine AW_drw mixed ?_ | refine AW_block ?_ | refine AW_scope ?_ | refine thenA_n ?_ | refine blockA_n ?_ | refine blockA_h ?_ | refine scopeA_n ?_ | refine thenA_r ?_ | refine blockA_r ?_ | refine scopeA_r ?_ | refine thenA_e ?_ | refine scopeA_e ?_ | refine blockA_e rfl ?_ | refine AW_exit ?_ | refine AW_ret ?_ | refine AW_skip ?_ | refine AW_c rfl ?_ | with_reducible refine cb_t ?_ | with_reducible refine cb_f ?_ | with_reducible refine cb_yes (by first | assumption | omega) ?_ | with_reducible refine cb_no (by first | assumption | omega) ?_ | refine And.intro (by decide +kernel) ?_) | (first | (apply Wv; (focus (first | exact step_ok rfl rfl | exact o_idx rfl rfl rfl rfl (by first | assumption | omega | decide) | exact o_idx3 rfl rfl rfl rfl (by first | assumption | omega | decide) | exact o_idx2 rfl rfl rfl rfl rfl (by first | assumption | omega | decide) | exact o_idxr rfl rfl rfl rfl rfl rfl | exact o_lenm rfl rfl rfl | exact o_len rfl rfl rfl | exact o_len0 rfl rfl rfl | exact o_lens rfl rfl rfl | exact o_lent rfl rfl | exact o_add1 rfl rfl rfl (by omega) | exact o_addn rfl rfl rfl (by omega) | exact o_add rfl rfl rfl (by omega) | exact o_sub1 rfl rfl rfl (by omega) | exact o_sub rfl rfl rfl (by omega) | exact o_mul rfl rfl rfl (by omega) | exact o_rem rfl rfl rfl (by omega) | exact ok_rem rfl rfl rfl (by decide) rfl | exact o_eqKey rfl rfl rfl | exact o_neKey rfl rfl rfl | exact o_eqVl rfl rfl rfl | exact o_neVl rfl rfl rfl | exact o_eqEnt rfl rfl rfl | exact o_neEnt rfl rfl rfl | exact o_eqMsg rfl rfl rfl | exact o_neMsg rfl rfl rfl | exact o_acall rfl rfl rfl rfl (by assumption) | exact o_minn rfl rfl rfl | exact o_cutl rfl rfl rfl rfl (by omega) | exact o_cuth rfl rfl rfl rfl (by omega) | exact o_cutl3 rfl rfl rfl rfl (by omega) | exact o_cuth3 rfl rfl rfl rfl (by omega) | exact o_cutl2 rfl rfl rfl rfl rfl (by omega) | exact o_cuth2 rfl rfl rfl rfl rfl (by omega) | exact o_cutlh2 rfl rfl rfl rfl rfl rfl rfl (by omega) (by omega) | exact e_bld rfl rfl rfl | exact e_bldk rfl rfl | exact z_bld0 rfl rfl rfl rfl rfl | exact z_bld rfl rfl rfl rfl rfl rfl rfl | exact o_addu rfl rfl rfl | exact z_blda rfl rfl rfl rfl rfl rfl rfl rfl rfl | exact o_idxa rfl rfl rfl rfl rfl rfl | exact o_idxra rfl rfl rfl rfl rfl rfl rfl | exact o_quo2 rfl rfl rfl (by omega) | exact o_quo rfl rfl rfl (by omega))); (focus (first | exact want_n | exact want_g rfl (by with_reducible rfl)))) | (apply Wb; (focus (first | exact o_box rfl rfl rfl rfl | exact o_app rfl rfl rfl rfl rfl (by first | exact o_many rfl | exact o_one _ _ rfl) (by first | omega | (simp; omega) | simp) (by first | omega | (simp; omega) | simp) | exact o_appn rfl rfl rfl rfl rfl (by first | exact o_many rfl | exact o_one _ _ rfl) (by first | omega | (simp; omega) | simp) (by first | omega | (simp; omega) | simp) | exact o_app1 rfl rfl rfl rfl rfl (by first | exact o_many rfl | exact o_one _ _ rfl) (by exact rfl) (by first | omega | (simp; omega) | simp) (by first | omega | (simp; omega) | simp) | exact o_app0 rfl rfl rfl rfl rfl (by first | exact o_many rfl | exact o_one _ _ rfl) (by first | omega | (simp; omega) | simp) (by first | omega | (simp; omega) | simp) | exact o_bsl0 rfl rfl rfl | exact z_bsll rfl rfl rfl rfl rfl rfl rfl rfl rfl | exact z_alloc rfl rfl rfl)); (focus (first | exact want_n | exact want_g rfl (by with_reducible rfl)))) | (apply Ws; (focus (exact ok_store tabT (d := none) rfl rfl rfl rfl rfl rfl rfl rfl rfl rfl)); (focus (first | exact want_n | exact want_g rfl (by with_reducible rfl)))) | (refine Wskip (by first | exact want_f rfl (by with_reducible exact b_nt) | exact want_f rfl (by with_reducible exact b_nf) | exact want_t rfl) rfl ?_) | refine Wgt rfl rfl (by first | assumption | omega | exact rfl) ?_ | refine Wgf rfl rfl (by first | assumption | omega | exact rfl) ?_ | (refine Wgb rfl rfl (by with_reducible assumption) ?_) | (refine cb_is _ (by assumption) ?_)))
    exact fin ⟨res_sl rfl, trivial⟩
end Go.Proofs.Ytigbkhjcboecjaa

namespace Go.Proofs.Ytigbkhjcboecjaa
open Go Go.RowKit
set_option linter.unusedVariables false
set_option linter.unusedSimpArgs false

attribute [local irreducible] OpOK AWops AW CondB Go2 AFn thenA inBlockA noGotoA orderOk wantedA
set_option maxRecDepth 100000 in
set_option maxHeartbeats 8000000 in
theorem a_bufFolds (e a b : List Int) (he : ∀ n ∈ e, -9223372036854775808 ≤ n ∧ n ≤ 9223372036854775807) (ha : ∀ n ∈ a, -9223372036854775808 ≤ n ∧ n ≤ 9223372036854775807) (hb : ∀ n ∈ b, -9223372036854775808 ≤ n ∧ n ≤ 9223372036854775807) : AFn Try.prog 8 [intsA e, intsA a, intsA b] (boolA true) := by
  refine AFn_intro Try.func8 rfl Try.ntmps8 rfl (by simp) [_] rfl fun E hE => ?_
  have c1 := a_msgs a 2000 ha
  have hl := msgList_bf a 2000
  have hll := msgList_len a 2000
  generalize msgList a 2000 = L at c1 hl hll
  have c2 := a_msgs b 2000 hb
  have hm := msgList_bf b 2000
  have hml := msgList_len b 2000
  generalize msgList b 2000 = S at c2 hm hml
  have c3 := a_entries e 2000 he
  have hx := entList_lf e 2000
  have hxl := entList_len e 2000
  generalize entList e 2000 = X at c3 hx hxl
  have hq := bf_all hl hm.ok
  have hql := ball_len S L
  have h2 := all_two hx hl hm.ok
  have hy := lf_all hx hl.ok
  have hyl := all_len L X
  have hzl := all_len S (lfAll X L)
  have c4 := a_bufall L S hl hm.ok (by omega) (by omega)
  have c5 := a_bufall [] L bf_nil hl.ok (by simp) (by omega)
  rw [ball_nil hl] at c5
  have c6 := a_ref07all X L hx hl.ok (by omega) (by omega)
  have c7 := a_ref07all (lfAll X L) S hy hm.ok (by omega) (by omega)
  have c8 := a_ref07all X (bfAll L S) hx hq.ok (by omega) (by omega)
  rw [h2] at c8
  generalize bfAll L S = Q at c4 c8 hql
  generalize hY : lfAll X L = Y at c6 c7 c8 hyl hzl
  generalize lfAll Y S = Z at c7 c8 hzl
  have d1 := acall Try.func10 (c1) (by decide +kernel) (by decide +kernel)
  have d2 := acall Try.func10 (c2) (by decide +kernel) (by decide +kernel)
  have d3 := acall Try.func34 (c3) (by decide +kernel) (by decide +kernel)
  have d4 := acall Try.func23 (c4) (by decide +kernel) (by decide +kernel)
  have d6 := acall Try.func35 (c6) (by decide +kernel) (by decide +kernel)
  have d7 := acall Try.func35 (c7) (by decide +kernel) (by decide +kernel)
  have d8 := acall Try.func35 (c8) (by decide +kernel) (by decide +kernel)
  have d9 := acall Try.func36 (a_ref07same Z (by omega)) (by decide +kernel) (by decide +kernel)
  have da := acall Try.func20 (a_law06same Q (by omega)) (by decide +kernel) (by decide +kernel)
  have db := acall Try.func31 (a_awake6) (by decide +kernel) (by decide +kernel)
  clear c1 c2 c3 c4 c6 c7 c8
  repeat (first | (first | refine Wend _ ?_ | refine AW_seq ?_ | refine AW_reg ?_ | refine AW_drw mixed ?_ | refine AW_block ?_ | refine AW_scope ?_ | refine thenA_n ?_ | refine blockA_n ?_ | refine blockA_h ?_ | refine scopeA_n ?_ | refine thenA_r ?_ | refine blockA_r ?_ | refine scopeA_r ?_ | refine thenA_e ?_ | refine scopeA_e ?_ | refine blockA_e rfl ?_ | refine AW_exit ?_ | refine AW_ret ?_ | refine AW_skip ?_ | refine AW_c rfl ?_ | with_reducible refine cb_t ?_ | with_reducible refine cb_f ?_ | with_reducible refine cb_yes (by first | assumption | omega) ?_ | with_reducible refine cb_no (by first | assumption | omega) ?_ | refine And.intro (by decide +kernel) ?_) | (first | (apply Wv; (focus (first | exact step_ok rfl rfl | exact o_idx rfl rfl rfl rfl (by first | assumption | omega | decide) | exact o_idx3 rfl rfl rfl rfl (by first | assumption | omega | decide) | exact o_idx2 rfl rfl rfl rfl rfl (by first | assumption | omega | decide) | exact o_idxr rfl rfl rfl rfl rfl rfl | exact o_lenm rfl rfl rfl | exact o_len rfl rfl rfl | exact o_len0 rfl rfl rfl | exact o_lens rfl rfl rfl | exact o_lent rfl rfl | exact o_add1 rfl rfl rfl (by omega) | exact o_addn rfl rfl rfl (by omega) | exact o_add rfl rfl rfl (by omega) | exact o_sub1 rfl rfl rfl (by omega) | exact o_sub rfl rfl rfl (by omega) | exact o_mul rfl rfl rfl (by omega) | exact o_rem rfl rfl rfl (by omega) | exact ok_rem rfl rfl rfl (by decide) rfl | exact o_eqKey rfl rfl rfl | exact o_neKey rfl rfl rfl | exact o_eqVl rfl rfl rfl | exact o_neVl rfl rfl rfl | exact o_eqEnt rfl rfl rfl | exact o_neEnt rfl rfl rfl | exact o_eqMsg rfl rfl rfl | exact o_neMsg rfl rfl rfl | exact o_acall rfl rfl rfl rfl (by assumption) | exact o_minn rfl rfl rfl | exact o_cutl rfl rfl rfl rfl (by omega) | exact o_cuth rfl rfl rfl rfl (by omega) | exact o_cutl3 rfl rfl rfl rfl (by omega) | exact o_cuth3 rfl rfl rfl rfl (by omega) | exact o_cutl2 rfl rfl rfl rfl rfl (by omega) | exact o_cuth2 rfl rfl rfl rfl rfl (by omega) | exact o_cutlh2 rfl rfl rfl rfl rfl rfl rfl (by omega) (by omega) | exact e_bld rfl rfl rfl | exact e_bldk rfl rfl | exact z_bld0 rfl rfl rfl rfl rfl | exact z_bld rfl rfl rfl rfl rfl rfl rfl | exact o_addu rfl rfl rfl | exact z_blda rfl rfl rfl rfl rfl rfl rfl rfl rfl | exact o_idxa rfl rfl rfl rfl rfl rfl | exact o_idxra rfl rfl rfl rfl rfl rfl rfl | exact o_quo2 rfl rfl rfl (by omega) | exact o_quo rfl rfl rfl (by omega))); (focus (first | exact want_n | exact want_g rfl (by with_reducible rfl)))) | (apply Wb; (focus (first | exact o_box rfl rfl rfl rfl | exact o_app rfl rfl rfl rfl rfl (by first | exact o_many rfl | exact o_one _ _ rfl) (by first | omega | (simp; omega) | simp) (by first | omega | (simp; omega) | simp) | exact o_appn rfl rfl rfl rfl rfl (by first | exact o_many rfl | exact o_one _ _ rfl) (by first | omega | (simp; omega) | simp) (by first | omega | (simp; omega) | simp) | exact o_app1 rfl rfl rfl rfl rfl (by first | exact o_many rfl | exact o_one _ _ rfl) (by exact rfl) (by first | omega | (simp; omega) | simp) (by first | omega | (simp; omega) | simp) | exact o_app0 rfl rfl rfl rfl rfl (by first | exact o_many rfl | exact o_one _ _ rfl) (by first | omega | (simp; omega) | simp) (by first | omega | (simp; omega) | simp) | exact o_bsl0 rfl rfl rfl | exact z_bsll rfl rfl rfl rfl rfl rfl rfl rfl rfl | exact z_alloc rfl rfl rfl)); (focus (first | exact want_n | exact want_g rfl (by with_reducible rfl)))) | (apply Ws; (focus (exact ok_store tabT (d := none) rfl rfl rfl rfl rfl rfl rfl rfl rfl rfl)); (focus (first | exact want_n | exact want_g rfl (by with_reducible rfl)))) | (refine Wskip (by first | exact want_f rfl (by with_reducible exact b_nt) | exact want_f rfl (by with_reducible exact b_nf) | exact want_t rfl) rfl ?_) | refine Wgt rfl rfl (by first | assumption | omega | exact rfl) ?_ | refine Wgf rfl rfl (by first | assumption | omega | exact rfl) ?_ | (refine Wgb rfl rfl (by with_reducible assumption) ?_) | (refine cb_is _ (by assumption) ?_)))
  (apply Wv; (focus (apply o_call Try.func23 (c5) rfl (by decide +kernel) rfl rfl; (any_goals (intro _; (repeat (first | exact wkl0 | refine wkd rfl ?_ | refine wkt ?_ | refine wkn ?_)); done)); (any_goals rfl))); (focus (first | exact want_n | exact want_g rfl (by with_reducible rfl))))
  repeat (first | (first | refine Wend _ ?_ | refine AW_seq ?_ | refine AW_reg ?_ | refine AW_drw mixed ?_ | refine AW_block ?_ | refine AW_scope ?_ | refine thenA_n ?_ | refine blockA_n ?_ | refine blockA_h ?_ | refine scopeA_n ?_ | refine thenA_r ?_ | refine blockA_r ?_ | refine scopeA_r ?_ | refine thenA_e ?_ | refine scopeA_e ?_ | refine blockA_e rfl ?_ | refine AW_exit ?_ | refine AW_ret ?_ | refine AW_skip ?_ | refine AW_c rfl ?_ | with_reducible refine cb_t ?_ | with_reducible refine cb_f ?_ | with_reducible refine cb_yes (by first | assumption | omega) ?_ | with_reducible refine cb_no (by first | assumption | omega) ?_ | refine And.intro (by decide +kernel) ?_) | (first | (apply Wv; (focus (first | exact step_ok rfl rfl | exact o_idx rfl rfl rfl rfl (by first | assumption | omega | decide) | exact o_idx3 rfl rfl rfl rfl (by first | assumption | omega | decide) | exact o_idx2 rfl rfl rfl rfl rfl (by first | assumption | omega | decide) | exact o_idxr rfl rfl rfl rfl rfl rfl | exact o_lenm rfl rfl rfl | exact o_len rfl rfl rfl | exact o_len0 rfl rfl rfl | exact o_lens rfl rfl rfl | exact o_lent rfl rfl | exact o_add1 rfl rfl rfl (by omega) | exact o_addn rfl rfl rfl (by omega) | exact o_add rfl rfl rfl (by omega) | exact o_sub1 rfl rfl rfl (by omega) | exact o_sub rfl rfl rfl (by omega) | exact o_mul rfl rfl rfl (by omega) | exact o_rem rfl rfl rfl (by omega) | exact ok_rem rfl rfl rfl (by decide) rfl | exact o_eqKey rfl rfl rfl | exact o_neKey rfl rfl rfl | exact o_eqVl rfl rfl rfl | exact o_neVl rfl rfl rfl | exact o_eqEnt rfl rfl rfl | exact o_neEnt rfl rfl rfl | exact o_eqMsg rfl rfl rfl | exact o_neMsg rfl rfl rfl | exact o_acall rfl rfl rfl rfl (by assumption) | exact o_minn rfl rfl rfl | exact o_cutl rfl rfl rfl rfl (by omega) | exact o_cuth rfl rfl rfl rfl (by omega) | exact o_cutl3 rfl rfl rfl rfl (by omega) | exact o_cuth3 rfl rfl rfl rfl (by omega) | exact o_cutl2 rfl rfl rfl rfl rfl (by omega) | exact o_cuth2 rfl rfl rfl rfl rfl (by omega) | exact o_cutlh2 rfl rfl rfl rfl rfl rfl rfl (by omega) (by omega) | exact e_bld rfl rfl rfl | exact e_bldk rfl rfl | exact z_bld0 rfl rfl rfl rfl rfl | exact z_bld rfl rfl rfl rfl rfl rfl rfl | exact o_addu rfl rfl rfl | exact z_blda rfl rfl rfl rfl rfl rfl rfl rfl rfl | exact o_idxa rfl rfl rfl rfl rfl rfl | exact o_idxra rfl rfl rfl rfl rfl rfl rfl | exact o_quo2 rfl rfl rfl (by omega) | exact o_quo rfl rfl rfl (by omega))); (focus (first | exact want_n | exact want_g rfl (by with_reducible rfl)))) | (apply Wb; (focus (first | exact o_box rfl rfl rfl rfl | exact o_app rfl rfl rfl rfl rfl (by first | exact o_many rfl | exact o_one _ _ rfl) (by first | omega | (simp; omega) | simp) (by first | omega | (simp; omega) | simp) | exact o_appn rfl rfl rfl rfl rfl (by first | exact o_many rfl | exact o_one _ _ rfl) (by first | omega | (simp; omega) | simp) (by first | omega | (simp; omega) | simp) | exact o_app1 rfl rfl rfl rfl rfl (by first | exact o_many rfl | exact o_one _ _ rfl) (by exact rfl) (by first | omega | (simp; omega) | simp) (by first | omega | (simp; omega) | simp) | exact o_app0 rfl rfl rfl rfl rfl (by first | exact o_many rfl | exact o_one _ _ rfl) (by first | omega | (simp; omega) | simp) (by first | omega | (simp; omega) | simp) | exact o_bsl0 rfl rfl rfl | exact z_bsll rfl rfl rfl rfl rfl rfl rfl rfl rfl | exact z_alloc rfl rfl rfl)); (focus (first | exact want_n | exact want_g rfl (by with_reducible rfl)))) | (apply Ws; (focus (exact ok_store tabT (d := none) rfl rfl rfl rfl rfl rfl rfl rfl rfl rfl)); (focus (first | exact want_n | exact want_g rfl (by with_reducible rfl)))) | (refine Wskip (by first | exact want_f rfl (by with_reducible exact b_nt) | exact want_f rfl (by with_reducible exact b_nf) | exact want_t rfl) rfl ?_) | refine Wgt rfl rfl (by first | assumption | omega | exact rfl) ?_ | refine Wgf rfl rfl (by first | assumption | omega | exact rfl) ?_ | (refine Wgb rfl rfl (by with_reducible assumption) ?_) | (refine cb_is _ (by assumption) ?_)))
  exact fin ⟨res_of rfl rfl rfl, trivial⟩
theorem bufFolds_walk (v0 : Value) (l0 : List (Int)) (v1 : Value) (l1 : List (Int)) (v2 : Value) (l2 : List (Int)) (w : World) (s0 : Sl ie 1 w v0 l0) (g0 : ∀ n ∈ l0, -9223372036854775808 ≤ n ∧ n ≤ 9223372036854775807) (z0 : l0.length ≤ 17592186043904) (s1 : Sl ie 1 w v1 l1) (g1 : ∀ n ∈ l1, -9223372036854775808 ≤ n ∧ n ≤ 9223372036854775807) (z1 : l1.length ≤ 17592186043904) (s2 : Sl ie 1 w v2 l2) (g2 : ∀ n ∈ l2, -9223372036854775808 ≤ n ∧ n ≤ 9223372036854775807) (z2 : l2.length ≤ 17592186043904) :
    Calls Try.prog 8 #[v0, v1, v2] w (Is w (.bool true)) :=
  law_of (a_bufFolds l0 l1 l2 g0 g1 g2) (rdp_cons rfl (ints_in s0) (rdp_cons rfl (ints_in s1) (rdp_cons rfl (ints_in s2) rdp_nil')))
end Go.Proofs.Ytigbkhjcboecjaa
