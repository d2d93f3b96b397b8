/-
  AfnAwake7: layer 7's laws' first sentence.
-/
import Derived.Test.YtjgikfpcnmleoaaLawEnts
import Derived.Test.YtjgikfpcnmleoaaLeafSplit
import Derived.Test.YtjgikfpcnmleoaaLeafCheck
namespace Go.Proofs.Ytjgikfpcnmleoaa
open Go Go.RowKit
set_option linter.unusedVariables false
set_option linter.unusedSimpArgs false

theorem lawKey_ne {v u : Int} (h : keyText (v % 1099511627776).toNat ≠ keyText (u % 1099511627776).toNat) : lawKey v ≠ lawKey u := fun e => by
  apply h
  have := congrArg Key.txt e
  unfold lawKey at this
  rwa [mkKey_txt _ (keyText_length _), mkKey_txt _ (keyText_length _)] at this
theorem put_new {l : List Ent} (h : Lf l) {m : Msg} (hm : m.ok = true) (hk : m.kind = 1) (hg : lfGet m.key l = none) : (lfPut l m).length = l.length + 1 := by
  have hn : ∀ (hi : lfAt m.key l < l.length), l[lfAt m.key l].key ≠ m.key := fun hi e => by
    rw [get_hit h.srt hi e] at hg; cases hg
  unfold lfPut
  rw [set_no h (Msg.spec hm).2.2.1 _ hn]
  have : (newE m.key (ap m (lfGet m.key l))).length = 1 := by unfold ap; rw [if_pos hk]; rfl
  have hle := lfAt_le m.key l
  simp only [List.length_append, List.length_take, List.length_drop, this]
  omega
theorem entStep_new {out : List Ent} {x : Int} (h : Lf out) (hl : out.length ≤ 10) (hg : lfGet (entMsg x).key out = none) : entStep 2000 out x = lfPut out (entMsg x) := by
  unfold entStep
  have h2 := lf_put h (entMsg_ok x)
  have h3 := h2.ok.bd.sum
  rw [put_new h (entMsg_ok x) rfl hg] at h3
  rw [if_pos (by omega)]
theorem aw7_len : (entList [0, 8, 16] 2000).length = 3 := by
  have n1 : lawKey 8 ≠ lawKey 0 := lawKey_ne (by decide)
  have n2 : lawKey 16 ≠ lawKey 0 := lawKey_ne (by decide)
  have n3 : lawKey 16 ≠ lawKey 8 := lawKey_ne (by decide)
  have k0 : (entMsg 0).key = lawKey 0 := rfl
  have k8 : (entMsg 8).key = lawKey 8 := rfl
  have k16 : (entMsg 16).key = lawKey 16 := rfl
  have e : entList [0, 8, 16] 2000 = entStep 2000 (entStep 2000 (entStep 2000 [] 0) 8) 16 := rfl
  have g0 : lfGet (entMsg 0).key [] = none := rfl
  have l0 := lf_put lf_nil (entMsg_ok 0)
  have z0 := put_new lf_nil (entMsg_ok 0) rfl g0
  have g8 : lfGet (entMsg 8).key (lfPut [] (entMsg 0)) = none := by
    rw [k8, get_put lf_nil (entMsg_ok 0) (lawKey_ok _), k0, if_neg n1]; rfl
  have l8 := lf_put l0 (entMsg_ok 8)
  have z8 := put_new l0 (entMsg_ok 8) rfl g8
  have g16 : lfGet (entMsg 16).key (lfPut (lfPut [] (entMsg 0)) (entMsg 8)) = none := by
    rw [k16, get_put l0 (entMsg_ok 8) (lawKey_ok _), k8, if_neg n3, get_put lf_nil (entMsg_ok 0) (lawKey_ok _), k0, if_neg n2]; rfl
  have z16 := put_new l8 (entMsg_ok 16) rfl g16
  rw [e, entStep_new lf_nil (by simp) g0, entStep_new l0 (by rw [z0]; simp) g8, entStep_new l8 (by rw [z8, z0]; simp) g16, z16, z8, z0]
  rfl
theorem aw7_put : (lfPut [] (lawMsg 0 1)).length = 1 := put_new lf_nil (lawMsg_ok 0 1) (by unfold lawMsg; decide) rfl
theorem split_lens {l : List Ent} (h : 2 ≤ l.length) : (l.take (lfCut l)).length + (l.drop (lfCut l)).length = l.length ∧ 0 < (l.take (lfCut l)).length ∧ 0 < (l.drop (lfCut l)).length := by
  obtain ⟨h1, h2, _⟩ := lfCut_spec h
  rw [List.length_take, List.length_drop]
  omega
theorem split_key {l : List Ent} (h : 2 ≤ l.length) (h' : 0 < (l.drop (lfCut l)).length) : keyAt l (lfCut l) = (l.drop (lfCut l))[0].key := by
  obtain ⟨h1, h2, _⟩ := lfCut_spec h
  rw [keyAt_eq h2, drop_zero_at h2 h']
attribute [local irreducible] OpOK AWops AW CondB Go2 AFn thenA inBlockA noGotoA orderOk wantedA
set_option maxRecDepth 100000 in
set_option maxHeartbeats 8000000 in
theorem a_awake7 : AFn Try.prog 25 [] (boolA true) := by
  refine AFn_intro Try.func25 rfl Try.ntmps25 rfl (by simp) [_] rfl fun E hE => ?_
  have c1 := a_entries [0, 8, 16] 2000 (fun n hn => by simp at hn; omega)
  have hlf := entList_lf [0, 8, 16] 2000
  have h3 := aw7_len
  generalize entList [0, 8, 16] 2000 = L at c1 hlf h3
  have c2 := a_leafsplit L hlf.ok.bd (by omega) (by omega)
  obtain ⟨s1, s2, s3⟩ := split_lens (l := L) (by omega)
  have s4 := split_key (l := L) (by omega) s3
  generalize keyAt L (lfCut L) = pk at c2 s4
  generalize L.take (lfCut L) = A at c2 s1 s2
  generalize L.drop (lfCut L) = B at c2 s1 s3 s4
  have c3 := a_leafsplit_no (L.take 1) (by rw [List.length_take]; omega)
  have h1 : 1 < L.length := by omega
  have c4 := a_leaffind L L[1].key hlf.srt (by omega)
  rw [get_hit hlf.srt h1 rfl] at c4
  have c4' : AFn Try.prog 13 [entsA L, L[1].key.av] (.tup [L[1].val.av, boolA true]) := c4
  have c5 := a_leafcheck L (by omega)
  rw [entsOkB_true hlf.ents] at c5
  have c8 := a_lmsg 0 1 (by omega) (by omega)
  have hput := aw7_put
  have hmo := lawMsg_ok 0 1
  generalize lawMsg 0 1 = M at c8 hput hmo
  have hm := Msg.spec hmo
  have c6 := a_leafput [] M lf_nil hm.2.2.1 ⟨hm.1, hm.2.1⟩ (by simp)
  have c7 := a_leafall [] [M] lf_nil (fun m h => by simp at h; subst h; exact hmo) (by simp) (by simp)
  have c7' : AFn Try.prog 23 [entsA [], msgsA [M]] (entsA (lfPut [] M)) := c7
  generalize lfPut [] M = Q at c6 c7' hput
  clear c7 c4
  have k' : (!true) = false := rfl
  have k'' : (!false) = true := rfl
  have d1 := acall Try.func9 (c1) (by decide +kernel) (by decide +kernel)
  have d2 := acall Try.func15 (c2) (by decide +kernel) (by decide +kernel)
  have d3 := acall Try.func15 (c3) (by decide +kernel) (by decide +kernel)
  have d4 := acall Try.func13 (c4') (by decide +kernel) (by decide +kernel)
  have d5 := acall Try.func18 (c5) (by decide +kernel) (by decide +kernel)
  have d6 := acall Try.func19 (a_leafbytes L hlf.ok.bd (by omega)) (by decide +kernel) (by decide +kernel)
  have d7 := acall Try.func20 (a_ref07bytes L hlf.ok.bd (by omega)) (by decide +kernel) (by decide +kernel)
  have d8 := acall Try.func12 (c8) (by decide +kernel) (by decide +kernel)
  repeat (first | (first | refine Wend _ ?_ | refine AW_seq ?_ | refine AW_reg ?_ | refine AW_drw mixed ?_ | refine AW_block ?_ | refine AW_scope ?_ | refine thenA_n ?_ | refine blockA_n ?_ | refine blockA_h ?_ | refine scopeA_n ?_ | refine thenA_r ?_ | refine blockA_r ?_ | refine scopeA_r ?_ | refine thenA_e ?_ | refine scopeA_e ?_ | refine blockA_e rfl ?_ | refine AW_exit ?_ | refine AW_ret ?_ | refine AW_skip ?_ | refine AW_c rfl ?_ | with_reducible refine cb_t ?_ | with_reducible refine cb_f ?_ | with_reducible refine cb_yes (by first | assumption | omega) ?_ | with_reducible refine cb_no (by first | assumption | omega) ?_ | refine And.intro (by decide +kernel) ?_) | (first | (apply Wv; (focus (first | exact step_ok rfl rfl | exact o_idx rfl rfl rfl rfl (by first | assumption | omega | decide) | exact o_idx3 rfl rfl rfl rfl (by first | assumption | omega | decide) | exact o_idx2 rfl rfl rfl rfl rfl (by first | assumption | omega | decide) | exact o_idxr rfl rfl rfl rfl rfl rfl | exact o_lenm rfl rfl rfl | exact o_len rfl rfl rfl | exact o_len0 rfl rfl rfl | exact o_lens rfl rfl rfl | exact o_lent rfl rfl | exact o_add1 rfl rfl rfl (by omega) | exact o_addn rfl rfl rfl (by omega) | exact o_add rfl rfl rfl (by omega) | exact o_sub1 rfl rfl rfl (by omega) | exact o_sub rfl rfl rfl (by omega) | exact o_mul rfl rfl rfl (by omega) | exact o_rem rfl rfl rfl (by omega) | exact ok_rem rfl rfl rfl (by decide) rfl | exact o_eqKey rfl rfl rfl | exact o_neKey rfl rfl rfl | exact o_eqVl rfl rfl rfl | exact o_neVl rfl rfl rfl | exact o_eqEnt rfl rfl rfl | exact o_neEnt rfl rfl rfl | exact o_eqMsg rfl rfl rfl | exact o_neMsg rfl rfl rfl | exact o_acall rfl rfl rfl rfl (by assumption) | exact o_minn rfl rfl rfl | exact o_cutl rfl rfl rfl rfl (by omega) | exact o_cuth rfl rfl rfl rfl (by omega) | exact o_cutl3 rfl rfl rfl rfl (by omega) | exact o_cuth3 rfl rfl rfl rfl (by omega) | exact o_cutl2 rfl rfl rfl rfl rfl (by omega) | exact o_cuth2 rfl rfl rfl rfl rfl (by omega) | exact o_cutlh2 rfl rfl rfl rfl rfl rfl rfl (by omega) (by omega) | exact e_bld rfl rfl rfl | exact e_bldk rfl rfl | exact z_bld0 rfl rfl rfl rfl rfl | exact z_bld rfl rfl rfl rfl rfl rfl rfl | exact o_addu rfl rfl rfl | exact z_blda rfl rfl rfl rfl rfl rfl rfl rfl rfl | exact o_idxa rfl rfl rfl rfl rfl rfl | exact o_idxra rfl rfl rfl rfl rfl rfl rfl | exact o_quo2 rfl rfl rfl (by omega) | exact o_quo rfl rfl rfl (by omega))); (focus (first | exact want_n | exact want_g rfl (by with_reducible rfl)))) | (apply Wb; (focus (first | exact o_box rfl rfl rfl rfl | exact o_app rfl rfl rfl rfl rfl (by first | exact o_many rfl | exact o_one _ _ rfl) (by first | omega | (simp; omega) | simp) (by first | omega | (simp; omega) | simp) | exact o_appn rfl rfl rfl rfl rfl (by first | exact o_many rfl | exact o_one _ _ rfl) (by first | omega | (simp; omega) | simp) (by first | omega | (simp; omega) | simp) | exact o_app1 rfl rfl rfl rfl rfl (by first | exact o_many rfl | exact o_one _ _ rfl) (by exact rfl) (by first | omega | (simp; omega) | simp) (by first | omega | (simp; omega) | simp) | exact o_app0 rfl rfl rfl rfl rfl (by first | exact o_many rfl | exact o_one _ _ rfl) (by first | omega | (simp; omega) | simp) (by first | omega | (simp; omega) | simp) | exact o_bsl0 rfl rfl rfl | exact z_bsll rfl rfl rfl rfl rfl rfl rfl rfl rfl | exact z_alloc rfl rfl rfl)); (focus (first | exact want_n | exact want_g rfl (by with_reducible rfl)))) | (apply Ws; (focus (exact ok_store tabT (d := none) rfl rfl rfl rfl rfl rfl rfl rfl rfl rfl)); (focus (first | exact want_n | exact want_g rfl (by with_reducible rfl)))) | (refine Wskip (by first | exact want_f rfl (by with_reducible exact b_nt) | exact want_f rfl (by with_reducible exact b_nf) | exact want_t rfl) rfl ?_) | refine Wgt rfl rfl (by first | assumption | omega | exact rfl) ?_ | refine Wgf rfl rfl (by first | assumption | omega | exact rfl) ?_ | (refine Wgb rfl rfl (by with_reducible assumption) ?_) | (refine cb_is _ (by assumption) ?_)))
  (apply Wv; (focus (apply o_call Try.func21 (c6) rfl (by decide +kernel) rfl rfl; (any_goals (intro _; (repeat (first | exact wkl0 | refine wkd rfl ?_ | refine wkt ?_ | refine wkn ?_)); done)); (any_goals rfl))); (focus (first | exact want_n | exact want_g rfl (by with_reducible rfl))))
  repeat (first | (first | refine Wend _ ?_ | refine AW_seq ?_ | refine AW_reg ?_ | refine AW_drw mixed ?_ | refine AW_block ?_ | refine AW_scope ?_ | refine thenA_n ?_ | refine blockA_n ?_ | refine blockA_h ?_ | refine scopeA_n ?_ | refine thenA_r ?_ | refine blockA_r ?_ | refine scopeA_r ?_ | refine thenA_e ?_ | refine scopeA_e ?_ | refine blockA_e rfl ?_ | refine AW_exit ?_ | refine AW_ret ?_ | refine AW_skip ?_ | refine AW_c rfl ?_ | with_reducible refine cb_t ?_ | with_reducible refine cb_f ?_ | with_reducible refine cb_yes (by first | assumption | omega) ?_ | with_reducible refine cb_no (by first | assumption | omega) ?_ | refine And.intro (by decide +kernel) ?_) | (first | (apply Wv; (focus (first | exact step_ok rfl rfl | exact o_idx rfl rfl rfl rfl (by first | assumption | omega | decide) | exact o_idx3 rfl rfl rfl rfl (by first | assumption | omega | decide) | exact o_idx2 rfl rfl rfl rfl rfl (by first | assumption | omega | decide) | exact o_idxr rfl rfl rfl rfl rfl rfl | exact o_lenm rfl rfl rfl | exact o_len rfl rfl rfl | exact o_len0 rfl rfl rfl | exact o_lens rfl rfl rfl | exact o_lent rfl rfl | exact o_add1 rfl rfl rfl (by omega) | exact o_addn rfl rfl rfl (by omega) | exact o_add rfl rfl rfl (by omega) | exact o_sub1 rfl rfl rfl (by omega) | exact o_sub rfl rfl rfl (by omega) | exact o_mul rfl rfl rfl (by omega) | exact o_rem rfl rfl rfl (by omega) | exact ok_rem rfl rfl rfl (by decide) rfl | exact o_eqKey rfl rfl rfl | exact o_neKey rfl rfl rfl | exact o_eqVl rfl rfl rfl | exact o_neVl rfl rfl rfl | exact o_eqEnt rfl rfl rfl | exact o_neEnt rfl rfl rfl | exact o_eqMsg rfl rfl rfl | exact o_neMsg rfl rfl rfl | exact o_acall rfl rfl rfl rfl (by assumption) | exact o_minn rfl rfl rfl | exact o_cutl rfl rfl rfl rfl (by omega) | exact o_cuth rfl rfl rfl rfl (by omega) | exact o_cutl3 rfl rfl rfl rfl (by omega) | exact o_cuth3 rfl rfl rfl rfl (by omega) | exact o_cutl2 rfl rfl rfl rfl rfl (by omega) | exact o_cuth2 rfl rfl rfl rfl rfl (by omega) | exact o_cutlh2 rfl rfl rfl rfl rfl rfl rfl (by omega) (by omega) | exact e_bld rfl rfl rfl | exact e_bldk rfl rfl | exact z_bld0 rfl rfl rfl rfl rfl | exact z_bld rfl rfl rfl rfl rfl rfl rfl | exact o_addu rfl rfl rfl | exact z_blda rfl rfl rfl rfl rfl rfl rfl rfl rfl | exact o_idxa rfl rfl rfl rfl rfl rfl | exact o_idxra rfl rfl rfl rfl rfl rfl rfl | exact o_quo2 rfl rfl rfl (by omega) | exact o_quo rfl rfl rfl (by omega))); (focus (first | exact want_n | exact want_g rfl (by with_reducible rfl)))) | (apply Wb; (focus (first | exact o_box rfl rfl rfl rfl | exact o_app rfl rfl rfl rfl rfl (by first | exact o_many rfl | exact o_one _ _ rfl) (by first | omega | (simp; omega) | simp) (by first | omega | (simp; omega) | simp) | exact o_appn rfl rfl rfl rfl rfl (by first | exact o_many rfl | exact o_one _ _ rfl) (by first | omega | (simp; omega) | simp) (by first | omega | (simp; omega) | simp) | exact o_app1 rfl rfl rfl rfl rfl (by first | exact o_many rfl | exact o_one _ _ rfl) (by exact rfl) (by first | omega | (simp; omega) | simp) (by first | omega | (simp; omega) | simp) | exact o_app0 rfl rfl rfl rfl rfl (by first | exact o_many rfl | exact o_one _ _ rfl) (by first | omega | (simp; omega) | simp) (by first | omega | (simp; omega) | simp) | exact o_bsl0 rfl rfl rfl | exact z_bsll rfl rfl rfl rfl rfl rfl rfl rfl rfl | exact z_alloc rfl rfl rfl)); (focus (first | exact want_n | exact want_g rfl (by with_reducible rfl)))) | (apply Ws; (focus (exact ok_store tabT (d := none) rfl rfl rfl rfl rfl rfl rfl rfl rfl rfl)); (focus (first | exact want_n | exact want_g rfl (by with_reducible rfl)))) | (refine Wskip (by first | exact want_f rfl (by with_reducible exact b_nt) | exact want_f rfl (by with_reducible exact b_nf) | exact want_t rfl) rfl ?_) | refine Wgt rfl rfl (by first | assumption | omega | exact rfl) ?_ | refine Wgf rfl rfl (by first | assumption | omega | exact rfl) ?_ | (refine Wgb rfl rfl (by with_reducible assumption) ?_) | (refine cb_is _ (by assumption) ?_)))
  (apply Wv; (focus (apply o_call Try.func23 (c7') rfl (by decide +kernel) rfl rfl; (any_goals (intro _; (repeat (first | exact wkl0 | refine wkd rfl ?_ | refine wkt ?_ | refine wkn ?_)); done)); (any_goals rfl))); (focus (first | exact want_n | exact want_g rfl (by with_reducible rfl))))
  repeat (first | (first | refine Wend _ ?_ | refine AW_seq ?_ | refine AW_reg ?_ | refine AW_drw mixed ?_ | refine AW_block ?_ | refine AW_scope ?_ | refine thenA_n ?_ | refine blockA_n ?_ | refine blockA_h ?_ | refine scopeA_n ?_ | refine thenA_r ?_ | refine blockA_r ?_ | refine scopeA_r ?_ | refine thenA_e ?_ | refine scopeA_e ?_ | refine blockA_e rfl ?_ | refine AW_exit ?_ | refine AW_ret ?_ | refine AW_skip ?_ | refine AW_c rfl ?_ | with_reducible refine cb_t ?_ | with_reducible refine cb_f ?_ | with_reducible refine cb_yes (by first | assumption | omega) ?_ | with_reducible refine cb_no (by first | assumption | omega) ?_ | refine And.intro (by decide +kernel) ?_) | (first | (apply Wv; (focus (first | exact step_ok rfl rfl | exact o_idx rfl rfl rfl rfl (by first | assumption | omega | decide) | exact o_idx3 rfl rfl rfl rfl (by first | assumption | omega | decide) | exact o_idx2 rfl rfl rfl rfl rfl (by first | assumption | omega | decide) | exact o_idxr rfl rfl rfl rfl rfl rfl | exact o_lenm rfl rfl rfl | exact o_len rfl rfl rfl | exact o_len0 rfl rfl rfl | exact o_lens rfl rfl rfl | exact o_lent rfl rfl | exact o_add1 rfl rfl rfl (by omega) | exact o_addn rfl rfl rfl (by omega) | exact o_add rfl rfl rfl (by omega) | exact o_sub1 rfl rfl rfl (by omega) | exact o_sub rfl rfl rfl (by omega) | exact o_mul rfl rfl rfl (by omega) | exact o_rem rfl rfl rfl (by omega) | exact ok_rem rfl rfl rfl (by decide) rfl | exact o_eqKey rfl rfl rfl | exact o_neKey rfl rfl rfl | exact o_eqVl rfl rfl rfl | exact o_neVl rfl rfl rfl | exact o_eqEnt rfl rfl rfl | exact o_neEnt rfl rfl rfl | exact o_eqMsg rfl rfl rfl | exact o_neMsg rfl rfl rfl | exact o_acall rfl rfl rfl rfl (by assumption) | exact o_minn rfl rfl rfl | exact o_cutl rfl rfl rfl rfl (by omega) | exact o_cuth rfl rfl rfl rfl (by omega) | exact o_cutl3 rfl rfl rfl rfl (by omega) | exact o_cuth3 rfl rfl rfl rfl (by omega) | exact o_cutl2 rfl rfl rfl rfl rfl (by omega) | exact o_cuth2 rfl rfl rfl rfl rfl (by omega) | exact o_cutlh2 rfl rfl rfl rfl rfl rfl rfl (by omega) (by omega) | exact e_bld rfl rfl rfl | exact e_bldk rfl rfl | exact z_bld0 rfl rfl rfl rfl rfl | exact z_bld rfl rfl rfl rfl rfl rfl rfl | exact o_addu rfl rfl rfl | exact z_blda rfl rfl rfl rfl rfl rfl rfl rfl rfl | exact o_idxa rfl rfl rfl rfl rfl rfl | exact o_idxra rfl rfl rfl rfl rfl rfl rfl | exact o_quo2 rfl rfl rfl (by omega) | exact o_quo rfl rfl rfl (by omega))); (focus (first | exact want_n | exact want_g rfl (by with_reducible rfl)))) | (apply Wb; (focus (first | exact o_box rfl rfl rfl rfl | exact o_app rfl rfl rfl rfl rfl (by first | exact o_many rfl | exact o_one _ _ rfl) (by first | omega | (simp; omega) | simp) (by first | omega | (simp; omega) | simp) | exact o_appn rfl rfl rfl rfl rfl (by first | exact o_many rfl | exact o_one _ _ rfl) (by first | omega | (simp; omega) | simp) (by first | omega | (simp; omega) | simp) | exact o_app1 rfl rfl rfl rfl rfl (by first | exact o_many rfl | exact o_one _ _ rfl) (by exact rfl) (by first | omega | (simp; omega) | simp) (by first | omega | (simp; omega) | simp) | exact o_app0 rfl rfl rfl rfl rfl (by first | exact o_many rfl | exact o_one _ _ rfl) (by first | omega | (simp; omega) | simp) (by first | omega | (simp; omega) | simp) | exact o_bsl0 rfl rfl rfl | exact z_bsll rfl rfl rfl rfl rfl rfl rfl rfl rfl | exact z_alloc rfl rfl rfl)); (focus (first | exact want_n | exact want_g rfl (by with_reducible rfl)))) | (apply Ws; (focus (exact ok_store tabT (d := none) rfl rfl rfl rfl rfl rfl rfl rfl rfl rfl)); (focus (first | exact want_n | exact want_g rfl (by with_reducible rfl)))) | (refine Wskip (by first | exact want_f rfl (by with_reducible exact b_nt) | exact want_f rfl (by with_reducible exact b_nf) | exact want_t rfl) rfl ?_) | refine Wgt rfl rfl (by first | assumption | omega | exact rfl) ?_ | refine Wgf rfl rfl (by first | assumption | omega | exact rfl) ?_ | (refine Wgb rfl rfl (by with_reducible assumption) ?_) | (refine cb_is _ (by assumption) ?_)))
  exact fin ⟨res_of ((show _ = some (AV.v (.bool (decide ((Q.length : Int) = 1)))) from rfl).trans (by rw [decide_eq_true (by omega)])) rfl rfl, trivial⟩
end Go.Proofs.Ytjgikfpcnmleoaa
