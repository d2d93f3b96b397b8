/-
  LawFan2: the walks of layer 8's laws: all that the layer tells.
-/
import Derived.Test.YtmmifkobcmabpaaAfnTwo
namespace Go.Proofs.Ytmmifkobcmabpaa
open Go Go.RowKit
set_option linter.unusedVariables false
set_option linter.unusedSimpArgs false

theorem a_sameInts' (a : List Int) (h : a.length ≤ 1000000000) : AFn Try.prog 28 [intsA a, intsA a] (boolA true) := by
  have := a_sameInts a a h
  rwa [show decide (a = a) = true from decide_eq_true rfl] at this
theorem a_sameKeys' (a : List Key) (h : a.length ≤ 1000000000) : AFn Try.prog 29 [keysA a, keysA a] (boolA true) := by
  have := a_sameKeys a a h
  rwa [show decide (a = a) = true from decide_eq_true rfl] at this
theorem fanIns_le (ks : List Int) (cs : List Key) (i : Int) (x : Key) (id : Int) : (fanIns ks cs i x id).1.length ≤ ks.length + 2 ∧ (fanIns ks cs i x id).2.length ≤ cs.length + 2 := by
  unfold fanIns
  split
  · simp [insKids, insCuts]; omega
  · simp
theorem fanHal_le (ks : List Int) (cs : List Key) : (fanHal ks cs).1.length ≤ ks.length ∧ (fanHal ks cs).2.1.length ≤ cs.length ∧ (fanHal ks cs).2.2.2.1.length ≤ ks.length ∧ (fanHal ks cs).2.2.2.2.1.length ≤ cs.length := by
  unfold fanHal
  split <;> simp <;> omega
attribute [local irreducible] OpOK AWops AW CondB Go2 AFn thenA inBlockA noGotoA orderOk wantedA
set_option maxRecDepth 100000 in
set_option maxHeartbeats 4000000 in
theorem a_fanAll (l : List Int) (n1 n2 n3 n4 n5 : Int) (hl : l.length ≤ 17592186043904) (hb : ∀ n ∈ l, -9223372036854775808 ≤ n ∧ n ≤ 9223372036854775807) (b1 : -9223372036854775808 ≤ n1 ∧ n1 ≤ 9223372036854775807) (b2 : -9223372036854775808 ≤ n2 ∧ n2 ≤ 9223372036854775807) :
    AFn Try.prog 6 [intsA l, intA n1, intA n2, intA n3, intA n4, intA n5] (boolA true) := by
  refine AFn_intro Try.func6 rfl Try.ntmps6 rfl (by simp) [_] rfl fun E hE => ?_
  have c0 := a_two l n1 (by omega) hb b1
  have hok := two_ok n1 l
  have hr := pivK_rise (16 :: l) 3
  have hp := pivK_le (16 :: l) 3 (by omega)
  have hk := kidsL_len n1 ((pivK (16 :: l) 3).length + 1)
  generalize kidsL n1 ((pivK (16 :: l) 3).length + 1) = K at c0 hok hk
  generalize pivK (16 :: l) 3 = P at c0 hok hr hp hk
  have c1 := a_lkey n2 b2
  have hx := lawKey_ok n2
  generalize lawKey n2 = x at c1 hx
  have i1 := a_insert K P n3 x n4 (by omega) (by omega)
  have r1 := a_refinsert K P n3 x n4 (by omega) (by omega) (by omega)
  have i2 := a_insert K P (n5.tmod 5) x n4 (by omega) (by omega)
  have r2 := a_refinsert K P (n5.tmod 5) x n4 (by omega) (by omega) (by omega)
  have le1 := fanIns_le K P n3 x n4
  have le2 := fanIns_le K P (n5.tmod 5) x n4
  generalize (fanIns K P n3 x n4).1 = A1 at i1 r1 le1
  generalize (fanIns K P n3 x n4).2 = A2 at i1 r1 le1
  generalize (fanIns K P (n5.tmod 5) x n4).1 = B1 at i2 r2 le2
  generalize (fanIns K P (n5.tmod 5) x n4).2 = B2 at i2 r2 le2
  have h1 := a_halves K P (by omega) (by omega)
  have h2 := a_refhalves K P (by omega) (by omega)
  have le3 := fanHal_le K P
  unfold fanHalA at h1 h2
  generalize (fanHal K P).1 = C1 at h1 h2 le3
  generalize (fanHal K P).2.1 = C2 at h1 h2 le3
  generalize (fanHal K P).2.2.1 = C3 at h1 h2
  generalize (fanHal K P).2.2.2.1 = C4 at h1 h2 le3
  generalize (fanHal K P).2.2.2.2.1 = C5 at h1 h2 le3
  generalize (fanHal K P).2.2.2.2.2 = C6 at h1 h2
  have f1 := a_fancheck K P
  rw [hok] at f1
  have k1 := a_kid P x (by omega)
  have k2 := a_refkid P x (by omega)
  rw [kidBy_ref hr hx] at k2
  have hnt : (!true) = false := rfl
  have n1' : ¬ C3 ≠ C3 := fun h => h rfl
  have n2' : ¬ C6 ≠ C6 := fun h => h rfl
  have d0 := acall Try.func23 (c0) (by decide +kernel) (by decide +kernel)
  have d1 := acall Try.func20 (c1) (by decide +kernel) (by decide +kernel)
  have d2 := acall Try.func26 (i1) (by decide +kernel) (by decide +kernel)
  have d3 := acall Try.func27 (r1) (by decide +kernel) (by decide +kernel)
  have d4 := acall Try.func26 (i2) (by decide +kernel) (by decide +kernel)
  have d5 := acall Try.func27 (r2) (by decide +kernel) (by decide +kernel)
  have d6 := acall Try.func30 (h1) (by decide +kernel) (by decide +kernel)
  have d7 := acall Try.func31 (h2) (by decide +kernel) (by decide +kernel)
  have d8 := acall Try.func15 (f1) (by decide +kernel) (by decide +kernel)
  have d9 := acall Try.func21 (k1) (by decide +kernel) (by decide +kernel)
  have e0 := acall Try.func24 (k2) (by decide +kernel) (by decide +kernel)
  have e1 := acall Try.func17 (a_place K n4 (by omega)) (by decide +kernel) (by decide +kernel)
  have e2 := acall Try.func18 (a_refplace K n4 (by omega)) (by decide +kernel) (by decide +kernel)
  have e3 := acall Try.func14 (a_awake8) (by decide +kernel) (by decide +kernel)
  have s1 := acall Try.func28 (a_sameInts' A1 (by omega)) (by decide +kernel) (by decide +kernel)
  have s2 := acall Try.func29 (a_sameKeys' A2 (by omega)) (by decide +kernel) (by decide +kernel)
  have s3 := acall Try.func28 (a_sameInts' B1 (by omega)) (by decide +kernel) (by decide +kernel)
  have s4 := acall Try.func29 (a_sameKeys' B2 (by omega)) (by decide +kernel) (by decide +kernel)
  have s5 := acall Try.func28 (a_sameInts' C1 (by omega)) (by decide +kernel) (by decide +kernel)
  have s6 := acall Try.func29 (a_sameKeys' C2 (by omega)) (by decide +kernel) (by decide +kernel)
  have s7 := acall Try.func28 (a_sameInts' C4 (by omega)) (by decide +kernel) (by decide +kernel)
  have s8 := acall Try.func29 (a_sameKeys' C5 (by omega)) (by decide +kernel) (by decide +kernel)
  repeat (first | (first | refine Wend _ ?_ | refine AW_seq ?_ | refine AW_reg ?_ | refine AW_drw mixed ?_ | refine AW_block ?_ | refine AW_scope ?_ | refine thenA_n ?_ | refine blockA_n ?_ | refine blockA_h ?_ | refine scopeA_n ?_ | refine thenA_r ?_ | refine blockA_r ?_ | refine scopeA_r ?_ | refine thenA_e ?_ | refine scopeA_e ?_ | refine blockA_e rfl ?_ | refine AW_exit ?_ | refine AW_ret ?_ | refine AW_skip ?_ | refine AW_c rfl ?_ | with_reducible refine cb_t ?_ | with_reducible refine cb_f ?_ | with_reducible refine cb_yes (by first | assumption | omega) ?_ | with_reducible refine cb_no (by first | assumption | omega) ?_ | refine And.intro (by decide +kernel) ?_) | (first | (apply Wv; (focus (first | exact step_ok rfl rfl | exact o_idx rfl rfl rfl rfl (by first | assumption | omega | decide) | exact o_idx3 rfl rfl rfl rfl (by first | assumption | omega | decide) | exact o_idx2 rfl rfl rfl rfl rfl (by first | assumption | omega | decide) | exact o_idxr rfl rfl rfl rfl rfl rfl | exact o_lenm rfl rfl rfl | exact o_len rfl rfl rfl | exact o_len0 rfl rfl rfl | exact o_lens rfl rfl rfl | exact o_lent rfl rfl | exact o_add1 rfl rfl rfl (by omega) | exact o_addn rfl rfl rfl (by omega) | exact o_add rfl rfl rfl (by omega) | exact o_sub1 rfl rfl rfl (by omega) | exact o_sub rfl rfl rfl (by omega) | exact o_mul rfl rfl rfl (by omega) | exact o_rem rfl rfl rfl (by omega) | exact ok_rem rfl rfl rfl (by decide) rfl | exact o_eqKey rfl rfl rfl | exact o_neKey rfl rfl rfl | exact o_acall rfl rfl rfl rfl (by assumption) | exact o_minn rfl rfl rfl | exact o_cutl rfl rfl rfl rfl (by omega) | exact o_cuth rfl rfl rfl rfl (by omega) | exact o_cutl3 rfl rfl rfl rfl (by omega) | exact o_cuth3 rfl rfl rfl rfl (by omega) | exact o_cutl2 rfl rfl rfl rfl rfl (by omega) | exact o_cuth2 rfl rfl rfl rfl rfl (by omega) | exact o_cutlh2 rfl rfl rfl rfl rfl rfl rfl (by omega) (by omega) | exact o_bld zero_Key rfl rfl rfl rfl rfl rfl rfl | exact o_bld zero_Node rfl rfl rfl rfl rfl rfl rfl)); (focus (first | exact want_n | exact want_g rfl (by with_reducible rfl)))) | (apply Wb; (focus (first | exact o_box rfl rfl rfl rfl | exact o_app rfl rfl rfl rfl rfl (by first | exact o_many rfl | exact o_one _ _ rfl) (by first | omega | (simp; omega) | simp) (by first | omega | (simp; omega) | simp) | exact o_appn rfl rfl rfl rfl rfl (by first | exact o_many rfl | exact o_one _ _ rfl) (by first | omega | (simp; omega) | simp) (by first | omega | (simp; omega) | simp) | exact o_app1 rfl rfl rfl rfl rfl (by first | exact o_many rfl | exact o_one _ _ rfl) (by exact rfl) (by first | omega | (simp; omega) | simp) (by first | omega | (simp; omega) | simp) | exact o_app0 rfl rfl rfl rfl rfl (by first | exact o_many rfl | exact o_one _ _ rfl) (by first | omega | (simp; omega) | simp) (by first | omega | (simp; omega) | simp) | exact o_bsl0 rfl rfl rfl | exact o_bsll zero_slints rfl rfl rfl rfl rfl rfl rfl rfl | exact o_bsll zero_slkeys rfl rfl rfl rfl rfl rfl rfl rfl | exact o_bsll zero_int rfl rfl rfl rfl rfl rfl rfl rfl | exact o_bsll zero_Key rfl rfl rfl rfl rfl rfl rfl rfl | exact o_alloc zero_Key rfl rfl | exact o_alloc zero_Node rfl rfl)); (focus (first | exact want_n | exact want_g rfl (by with_reducible rfl)))) | (apply Ws; (focus (exact ok_store tabT (d := none) rfl rfl rfl rfl rfl rfl rfl rfl rfl rfl)); (focus (first | exact want_n | exact want_g rfl (by with_reducible rfl)))) | (refine Wskip (by first | exact want_f rfl (by with_reducible exact b_nt) | exact want_f rfl (by with_reducible exact b_nf) | exact want_t rfl) rfl ?_) | refine Wgt rfl rfl (by first | assumption | omega | exact rfl) ?_ | refine Wgf rfl rfl (by first | assumption | omega | exact rfl) ?_ | (refine Wgb rfl rfl (by assumption) ?_) | (refine cb_is _ (by assumption) ?_)))
  exact fin ⟨res_of rfl rfl rfl, trivial⟩
theorem fanAll_walk (v0 : Value) (l0 : List (Int)) (n1 : Int) (n2 : Int) (n3 : Int) (n4 : Int) (n5 : Int) (w : World) (s0 : Sl ie 1 w v0 l0) (g0 : ∀ n ∈ l0, -9223372036854775808 ≤ n ∧ n ≤ 9223372036854775807) (z0 : l0.length ≤ 17592186043904) (b1 : -9223372036854775808 ≤ n1 ∧ n1 ≤ 9223372036854775807) (b2 : -9223372036854775808 ≤ n2 ∧ n2 ≤ 9223372036854775807) (b3 : -9223372036854775808 ≤ n3 ∧ n3 ≤ 9223372036854775807) (b4 : -9223372036854775808 ≤ n4 ∧ n4 ≤ 9223372036854775807) (b5 : -9223372036854775808 ≤ n5 ∧ n5 ≤ 9223372036854775807) :
    Calls Try.prog 6 #[v0, .int .i64 n1, .int .i64 n2, .int .i64 n3, .int .i64 n4, .int .i64 n5] w (Is w (.bool true)) :=
  law_of (a_fanAll l0 n1 n2 n3 n4 n5 z0 g0 b1 b2) (rdp_cons rfl (ints_in s0) (rdp_cons rfl int_in (rdp_cons rfl int_in (rdp_cons rfl int_in (rdp_cons rfl int_in (rdp_cons rfl int_in rdp_nil'))))))
end Go.Proofs.Ytmmifkobcmabpaa
