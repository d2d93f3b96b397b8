/-
  M6: several texts as one: LawCodec1. No condition beyond those that each theorem states.
-/
import Derived.Test.YtcmdhpinelnclaaM5
namespace Go.Proofs.Ytcmdhpinelnclaa
open Go Go.RowKit
set_option linter.unusedVariables false
set_option linter.unusedSimpArgs false
set_option maxRecDepth 100000

def fewB (n : Nd) : Bool := decide (n.es.length ≤ 80) && decide (n.ks.length ≤ 20) && decide (n.ps.length ≤ 20) && decide (n.ms.length ≤ 60)
theorem few_sm {n : Nd} (h : fewB n = true) : n.Sm := by
  unfold fewB at h
  simp only [Bool.and_eq_true, decide_eq_true_eq] at h
  exact ⟨by omega, by omega, by omega, by omega⟩
theorem decode_sm (b : List (BitVec 8)) : (decode b).1.Sm := by
  unfold decode
  split
  · split
    · split
      · exact rdNode_sm b
      · exact zero_sm
    · exact zero_sm
  · exact zero_sm
theorem encode_len (n : Nd) : (encode n).1.length ≤ 256 := by
  unfold encode
  split
  · rename_i h; show (encB n).length ≤ _; rw [encB_len h]; omega
  · simp
section
variable {E : Env} {nt : Nat} {ops : Array Oper} {T : Nat → Option AV} {H : Hp} {d : Option Nat} {ty : TypeId} {pos : String} {af : Array Edge} {gd : Option (Nat × Bool)}
/-- make, as a list -/
theorem ob_makeT {t e : TypeId} {es bytes : Nat} {ea : Bool} {x y : Operand} {k k' : IntKind} {n : Nat} {f : BitVec 8 → AV} {z : BitVec 8} {g : Nat} {m m' : Int} (hd : dOk nt (some g) = true) (hs : tabT.ti t = some (.sl e (es + 1) bytes ea)) (hz : zeroT e = some (f z)) (hx : evalO T x = some (.v (.int k m))) (hy : evalO T y = some (.v (.int k' m'))) (hm : natOf m = some n) (hm' : natOf m' = some n) (hg : H g = none) (hb : bytes * n ≤ 140737488355328) (hn : n ≤ 9223372036854775807) :
    OpOK Try.prog E nt ops ⟨some g, .makeSlice t x y, ty, pos, af, gd⟩ T H [] ⟨.sl (some g) (es + 1) ((List.replicate n z).map f), [(g, .tail e (es + 1) n)]⟩ := by
  have := natOf_eq hm; subst this
  have := natOf_eq hm'; subst this
  rw [List.map_replicate]
  refine ok_eff hd fun B T' H' a w r ht hh hw' => ?_
  have hg' : H' g = none := (hw' (g, .tail e (es + 1) n) (by simp)).trans hg
  have e1 := r.evalv ((ht x (by simp [Op.operands])).trans hx)
  have e2 := r.evalv ((ht y (by simp [Op.operands])).trans hy)
  obtain ⟨_, hu, hte, i, zv, z1, z2, z3, z4, z5⟩ := tabT.ok t _ hs
  obtain ⟨i', zv', y1, y2, y3⟩ := zeroT_ok hz
  rw [z1] at y1; injection y1 with y1; subst y1
  rw [z2] at y2; injection y2 with y2; subst y2
  have hrun := run_make (P := Try.prog) w t e i zv hu z1 z2 k k' n n (by omega) (Int.le_refl _) (by rw [z4]; exact imul_le _ _ hb) (by omega)
  simp only [Int.toNat_natCast, z3] at hrun
  have hmd := made_rdu (U := unst E B H') (w := w) (y3 _ _) (by rw [z5]; omega) n
  rw [z5] at hmd
  have hml := Rdu_len hmd
  obtain ⟨k1, k2⟩ := r.newRow (e := e) (k := n) (cap := n) (ys := List.replicate n (f z)) (cs := (madeCells zv.cells (n * (es + 1))).toList) hg' (Nat.succ_pos es) (by rw [← hml, List.take_length]; exact hmd) (by simp) (by rw [hml]; simp) (Nat.le_refl _) (by unfold maxLen; omega)
  rw [Array.toArray_toList] at k1 k2
  have hfin : (execOp a.eval ⟨some g, .makeSlice t x y, ty, pos, af, gd⟩).run Try.prog w = .ok (.value (.slice (some ⟨w.heap.size, 0, none⟩) n n)) (w.alloc (.cells (madeCells zv.cells (n * (es + 1))) e)) := by
    simp [execOp, e1, e2, hrun]
  exact ⟨_, _, _, hfin, k1, by rw [Rdv_not (by simp)]; exact ⟨_, k2, rfl⟩⟩
end
theorem wT {Q R : Prop} (k : R) (h : Hid R → Q := by intro kHid; (repeat (first | (first | refine Wend _ ?_ | refine AW_seq ?_ | refine AW_reg ?_ | refine AW_drw mixed ?_ | refine AW_block ?_ | refine AW_scope ?_ | refine thenA_n ?_ | refine blockA_n ?_ | refine blockA_h ?_ | refine scopeA_n ?_ | refine thenA_r ?_ | refine blockA_r ?_ | refine scopeA_r ?_ | refine thenA_e ?_ | refine scopeA_e ?_ | refine blockA_e rfl ?_ | refine AW_exit ?_ | refine AW_ret ?_ | refine AW_skip ?_ | refine AW_c rfl ?_ | with_reducible refine cb_t ?_ | with_reducible refine cb_f ?_ | with_reducible refine cb_yes (by first | assumption | omega) ?_ | with_reducible refine cb_no (by first | assumption | omega) ?_ | refine And.intro (by decide +kernel) ?_) | (first | (apply Wv; (focus (first | exact step_ok rfl rfl | exact ok_nilc rfl rfl | exact o_idx rfl rfl rfl rfl (by first | assumption | omega | decide) | exact o_idx3 rfl rfl rfl rfl (by first | assumption | omega | decide) | exact o_idx2 rfl rfl rfl rfl rfl (by first | assumption | omega | decide | exact Nat.lt_of_lt_of_le (m := 256) (by decide) (by omega)) | exact o_idxr rfl rfl rfl rfl rfl rfl | exact o_lenm rfl rfl rfl | exact o_len rfl rfl rfl | exact o_len0 rfl rfl rfl | exact o_lens rfl rfl rfl | exact o_lent rfl rfl | exact ob_len rfl rfl rfl rfl (by first | rfl | assumption | omega | (simp; done) | (simp; omega)) | exact o_add1 rfl rfl rfl (by omega) | exact o_addn rfl rfl rfl (by omega) | exact o_addc rfl rfl rfl (by omega) (by omega) | exact o_add rfl rfl rfl (by omega) | exact o_sub1 rfl rfl rfl (by omega) | exact o_sub rfl rfl rfl (by omega) | exact o_acall rfl rfl rfl rfl (by assumption) | exact o_convb ⟨_, Try.underlying3⟩ Try.underlying5 rfl rfl | exact o_convu ⟨_, Try.underlying3⟩ Try.underlying71 rfl rfl | exact o_cv32 ⟨_, Try.underlying77⟩ Try.underlying71 rfl rfl | exact o_cvk ⟨_, Try.underlying71⟩ Try.underlying3 rfl rfl | exact o_cv8 ⟨_, Try.underlying5⟩ Try.underlying3 rfl rfl | exact o_convs Try.underlying33 Try.underlying5 Try.underlying9 rfl rfl | exact ob_cutr rfl rfl rfl (by simp) (by decide) | exact ob_cutf rfl rfl rfl rfl rfl rfl (by simp) (by decide) | exact ob_cutfh rfl rfl rfl rfl rfl rfl rfl (by first | assumption | omega) (by simp) (by decide) | exact ok_cut_arr tabT rfl rfl rfl bnd_none (Nat.le_refl _) (by decide) | exact o_cutlh rfl rfl rfl rfl rfl (by omega) (by omega) | exact o_cutl rfl rfl rfl rfl (by omega) | exact o_cuth rfl rfl rfl rfl (by omega) | exact o_cutl3 rfl rfl rfl rfl (by omega) | exact o_cuth3 rfl rfl rfl rfl (by omega) | exact o_cutl2 rfl rfl rfl rfl rfl (by omega) | exact o_cuth2 rfl rfl rfl rfl rfl (by omega) | exact o_cutlh2 rfl rfl rfl rfl rfl rfl rfl (by first | omega | decide) (by first | omega | exact Nat.le_trans (m := 256) (by decide) (by omega)) | exact ob_cutl rfl rfl rfl rfl rfl rfl (by first | rfl | assumption | omega | (simp; done) | (simp; omega)) (by first | rfl | assumption | omega | (simp; done) | (simp; omega)) | exact ob_cutlh rfl rfl rfl rfl rfl rfl rfl rfl (by first | rfl | assumption | omega | (simp; done) | (simp; omega)) (by first | rfl | assumption | omega | (simp; done) | (simp; omega)) (by first | rfl | assumption | omega | (simp; done) | (simp; omega)) | exact ob_idx rfl rfl rfl rfl rfl rfl (by first | rfl | assumption | omega | (simp; done) | (simp; omega)) (by first | rfl | assumption | omega | (simp; done) | (simp; omega)) | exact ob_ld rfl rfl rfl (by first | rfl | assumption | omega | (simp; done) | (simp; omega)) (by first | rfl | assumption | omega | (simp; done) | (simp; omega)) rfl rfl | exact ob_eqs rfl rfl rfl | exact ob_nes rfl rfl rfl | exact o_bld zero_reader rfl rfl rfl rfl rfl rfl rfl | exact o_mkfnF rfl rfl rfl | exact o_bld zero_refreader rfl rfl rfl rfl rfl rfl rfl | exact e_bld rfl rfl rfl | exact e_bldk rfl rfl | exact z_bld0 rfl rfl rfl rfl rfl | exact z_bld rfl rfl rfl rfl rfl rfl rfl | exact o_mkfn rfl rfl rfl | exact o_xorb rfl rfl rfl)); (focus (first | exact want_n | exact want_g rfl (by with_reducible rfl)))) | (apply Wb; (focus (first | exact o_box rfl rfl rfl rfl | exact ob_app rfl rfl rfl rfl rfl (by first | exact o_many rfl | exact o_one _ _ rfl | exact o_zero rfl) (by first | rfl | assumption | omega | (simp; done) | (simp; omega)) (by first | omega | (simp; omega) | (simp; done)) (by first | omega | (simp; omega) | (simp; done)) | exact oo_app0 rfl rfl rfl rfl rfl (by first | exact o_many rfl | exact o_one _ _ rfl | exact o_zero rfl) (by first | omega | (simp; omega) | (simp; done)) (by first | omega | (simp; omega) | (simp; done)) | exact o_app rfl rfl rfl rfl rfl (by first | exact o_many rfl | exact o_one _ _ rfl | exact o_zero rfl) (by first | omega | (simp; omega) | (simp; done)) (by first | omega | (simp; omega) | (simp; done)) | exact o_appn rfl rfl rfl rfl rfl (by first | exact o_many rfl | exact o_one _ _ rfl | exact o_zero rfl) (by first | omega | (simp; omega) | (simp; done)) (by first | omega | (simp; omega) | (simp; done)) | exact o_app1 rfl rfl rfl rfl rfl (by first | exact o_many rfl | exact o_one _ _ rfl | exact o_zero rfl) (by exact rfl) (by first | omega | (simp; omega) | (simp; done)) (by first | omega | (simp; omega) | (simp; done)) | exact o_app0 rfl rfl rfl rfl rfl (by first | exact o_many rfl | exact o_one _ _ rfl | exact o_zero rfl) (by first | omega | (simp; omega) | (simp; done)) (by first | omega | (simp; omega) | (simp; done)) | exact o_bsl0O rfl rfl rfl | exact z_bsll rfl rfl rfl rfl rfl rfl rfl rfl rfl | exact z_alloc rfl rfl rfl | exact ob_copy rfl rfl rfl rfl rfl (by first | rfl | assumption | omega | (simp; done) | (simp; omega)) (by first | rfl | assumption | omega | (simp; done) | (simp; omega)) (by first | rfl | assumption | omega | (simp; done) | (simp; omega)) (by first | rfl | assumption | omega | (simp; done) | (simp; omega)) | exact ob_zeros (f := byteA) (z := 0#8) Try.underlying3 rfl rfl rfl rfl rfl rfl (by omega) (by first | rfl | assumption | omega | (simp; done) | (simp; omega)) (by first | omega | (simp; omega) | (simp; done)) (by first | omega | (simp; omega) | (simp; done)) | exact ob_makeT (f := byteA) (z := 0#8) rfl rfl rfl rfl rfl rfl rfl rfl (by decide) (by decide))); (focus (first | exact want_n | exact want_g rfl (by with_reducible rfl)))) | (apply Ws; (focus (first | exact ob_st rfl rfl rfl (by first | rfl | assumption | omega | (simp; done) | (simp; omega)) (by first | rfl | assumption | omega | (simp; done) | (simp; omega)) rfl (fun _ => rfl) rfl rfl | exact ob_st0 rfl rfl rfl (by first | rfl | assumption | omega | (simp; done) | (simp; omega)) (by first | rfl | assumption | omega | (simp; done) | (simp; omega)) rfl | exact ok_store tabT (d := none) rfl rfl rfl rfl rfl rfl rfl rfl rfl rfl | exact ob_clear (f := byteA) (z := 0#8) rfl rfl rfl rfl (by first | rfl | assumption | omega | (simp; done) | (simp; omega)) (by first | rfl | assumption | omega | (simp; done) | (simp; omega)) (by first | rfl | assumption | omega | (simp; done) | (simp; omega)))); (focus (first | exact want_n | exact want_g rfl (by with_reducible rfl)))) | (refine Wskip (by first | exact want_f rfl (by with_reducible exact b_nt) | exact want_f rfl (by with_reducible exact b_nf) | exact want_t rfl) rfl ?_) | refine Wgt rfl rfl (by first | assumption | omega | exact rfl) ?_ | refine Wgf rfl rfl (by first | assumption | omega | exact rfl) ?_ | (refine Wgb rfl rfl (by with_reducible assumption) ?_) | (refine cb_is _ (by assumption) ?_)))); exact kHid.out) : Q := h ⟨k⟩
def ndL : Nd := ⟨true, [], [], [], []⟩
theorem ndL_fits : nodeFits ndL = true := by
  unfold nodeFits nodeOk leafOk ndBytes ndL
  rw [if_pos rfl, if_pos rfl, if_pos rfl, entsOkB_true (fun j hj => absurd hj (by simp))]
  simp [eSum]
theorem zeros_sum : sumL (List.replicate 256 0#8) ≠ 0#32 := by decide +kernel
theorem zeros_decode : decode (List.replicate 256 0#8) = (Nd.zero, 5) := by
  have hb : bareB (List.replicate 256 0#8) = List.replicate 256 0#8 := by decide +kernel
  have hs : sumIn (List.replicate 256 0#8) = List.replicate 4 0#8 := rfl
  have hne : ¬ sum4 (bareB (List.replicate 256 0#8)) = sumIn (List.replicate 256 0#8) := by
    rw [hb, hs]
    intro k
    have := leNum_four (sumL (List.replicate 256 0#8))
    unfold sum4 at k
    rw [k] at this
    apply zeros_sum
    apply BitVec.eq_of_toNat_eq
    have h2 := congrArg BitVec.toNat this
    rw [BitVec.toNat_setWidth] at h2
    have h3 : (leNum (List.replicate 4 0#8)).toNat = 0 := by decide +kernel
    rw [h3] at h2
    have h4 := (sumL (List.replicate 256 0#8)).isLt
    rw [Nat.mod_eq_of_lt (by omega)] at h2
    exact h2.symm
  unfold decode
  rw [if_pos (by simp), if_neg hne]
attribute [local irreducible] OpOK AWops AW CondB Go2 AFn thenA inBlockA noGotoA orderOk wantedA
set_option maxRecDepth 100000 in
set_option maxHeartbeats 4000000 in
theorem a_few (n : Nd) : AFn Try.prog 13 [n.av] (boolA (fewB n)) := by
  obtain ⟨lf, es, ks, ps, ms⟩ := n
  dsimp only [Nd.av]
  refine AFn_intro Try.func13 rfl Try.ntmps13 rfl (by simp) [_] rfl fun E hE => ?_
  by_cases c1 : es.length ≤ 80
  · by_cases c2 : ks.length ≤ 20
    · by_cases c3 : ps.length ≤ 20
      · by_cases c4 : ms.length ≤ 60
        · rw [show fewB ⟨lf, es, ks, ps, ms⟩ = true from by unfold fewB; dsimp only; rw [decide_eq_true c1, decide_eq_true c2, decide_eq_true c3, decide_eq_true c4]; rfl]
          refine wI ?_
          exact fin ⟨res_yes rfl (by omega), trivial⟩
        · rw [show fewB ⟨lf, es, ks, ps, ms⟩ = false from by unfold fewB; dsimp only; rw [decide_eq_true c1, decide_eq_true c2, decide_eq_true c3, decide_eq_false c4]; rfl]
          refine wI ?_
          exact fin ⟨res_no rfl (by omega), trivial⟩
      · rw [show fewB ⟨lf, es, ks, ps, ms⟩ = false from by unfold fewB; dsimp only; rw [decide_eq_true c1, decide_eq_true c2, decide_eq_false c3]; rfl]
        refine wI ?_
        exact fin ⟨res_of rfl rfl rfl, trivial⟩
    · rw [show fewB ⟨lf, es, ks, ps, ms⟩ = false from by unfold fewB; dsimp only; rw [decide_eq_true c1, decide_eq_false c2]; rfl]
      refine wI ?_
      exact fin ⟨res_of rfl rfl rfl, trivial⟩
  · rw [show fewB ⟨lf, es, ks, ps, ms⟩ = false from by unfold fewB; dsimp only; rw [decide_eq_false c1]; rfl]
    refine wI ?_
    exact fin ⟨res_of rfl rfl rfl, trivial⟩
set_option maxRecDepth 100000 in
set_option maxHeartbeats 8000000 in
theorem a_codes (n : Nd) (h : n.Sm) : AFn Try.prog 9 [n.av] (boolA true) := by
  have c0 := a_cencode n h
  have c1 := a_refencode n h
  have c2 := a_cdecode (encode n).1 (by have := encode_len n; omega)
  have c3 := a_refsame (decode (encode n).1).1 n (decode_sm _)
  cases hf : nodeFits n with
  | true =>
    have he : encode n = (encB n, 0) := by unfold encode; rw [if_pos hf]
    rw [he] at c0 c1 c2 c3
    dsimp only at c0 c1 c2 c3
    rw [decode_enc hf] at c2 c3
    dsimp only at c2 c3
    rw [decide_eq_true rfl] at c3
    generalize encB n = bb at *
    refine AFn_intro Try.func9 rfl Try.ntmps9 rfl (by simp) [_] rfl fun E hE => ?_; have hnt : (!true) = false := rfl; have hnf : (!false) = true := rfl
    have hbb : decide (bb = bb) = true := decide_eq_true rfl
    have d0 := acall Try.func18 (c0) (by decide +kernel) (by decide +kernel)
    have d1 := acall Try.func20 (c1) (by decide +kernel) (by decide +kernel)
    have d2 := acall Try.func14 (c2) (by decide +kernel) (by decide +kernel)
    have d3 := acall Try.func16 (c3) (by decide +kernel) (by decide +kernel)
    refine wX ?_
    exact fin ⟨res_of rfl rfl rfl, trivial⟩
  | false =>
    have he : encode n = ([], 4) := by unfold encode; rw [hf]; rfl
    rw [he] at c0 c1 c2 c3
    dsimp only at c0 c1 c2 c3
    have hd : decode [] = (Nd.zero, 4) := by unfold decode; rw [if_neg (by simp)]
    rw [hd] at c2
    dsimp only at c2
    refine AFn_intro Try.func9 rfl Try.ntmps9 rfl (by simp) [_] rfl fun E hE => ?_; have hnt : (!true) = false := rfl; have hnf : (!false) = true := rfl
    have hbb : decide (([] : List (BitVec 8)) = []) = true := decide_eq_true rfl
    have d0 := acall Try.func18 (c0) (by decide +kernel) (by decide +kernel)
    have d1 := acall Try.func20 (c1) (by decide +kernel) (by decide +kernel)
    have d2 := acall Try.func14 (c2) (by decide +kernel) (by decide +kernel)
    refine wX ?_
    exact fin ⟨res_of rfl rfl rfl, trivial⟩
set_option maxRecDepth 100000 in
set_option maxHeartbeats 8000000 in
theorem a_awake11 : AFn Try.prog 12 [] (boolA true) := by
  have hf := ndL_fits
  have c0 := AFn_weak (a_cencode ndL (fits_sm hf)) (xs := [nodeA true nilA nilA nilA nilA]) (fun H => .cons (Wk.agg (.cons (Wk.data rfl) (.cons Wk.nil (.cons Wk.nil (.cons Wk.nil (.cons Wk.nil .nil)))))) .nil)
  have he : encode ndL = (encB ndL, 0) := by unfold encode; rw [if_pos hf]
  rw [he] at c0
  have hl := encB_len hf
  have c1 := a_cdecode (encB ndL) (by omega)
  rw [decode_enc hf] at c1
  have c2 := AFn_weak (a_cencode Nd.zero zero_sm) (xs := [nodeA false nilA nilA nilA nilA]) (fun H => .cons (Wk.agg (.cons (Wk.data rfl) (.cons Wk.nil (.cons Wk.nil (.cons Wk.nil (.cons Wk.nil .nil)))))) .nil)
  have hz : encode Nd.zero = ([], 4) := by unfold encode; rw [zero_nofit]; rfl
  rw [hz] at c2
  have hd : decode [] = (Nd.zero, 4) := by unfold decode; rw [if_neg (by simp)]
  have c3 := AFn_weak (a_cdecode [] (by simp)) (xs := [nilA]) (fun H => .cons Wk.nil .nil)
  rw [hd] at c3
  have c4 := a_cdecode (List.replicate 256 0#8) (by simp)
  rw [zeros_decode] at c4
  dsimp only at c0 c1 c2 c3 c4
  have g0 : B8 ((encB ndL)[0]'(by omega)) = 1 := by rw [byAt_get (by omega), enc_head hf (by omega), B8_one]; rfl
  have g1 : B8 ((encB ndL)[1]'(by omega)) = 0 := by rw [byAt_get (by omega), enc_head hf (by omega), ← B8_zero]; rfl
  have g2 : B8 ((encB ndL)[255]'(by omega)) = 0 := by
    have e1 : (encB ndL)[255]? = (rawB ndL)[255]? := put4_hi _ _ _ (by rw [rawB_len hf]; omega) (by rw [sum4_len]; omega)
    have e2 : (rawB ndL)[255]? = some 0#8 := by decide +kernel
    have e3 : (encB ndL)[255]? = some ((encB ndL)[255]'(by omega)) := List.getElem?_eq_getElem (by omega)
    have e4 : some ((encB ndL)[255]'(by omega)) = some 0#8 := (e3.symm.trans e1).trans e2
    have e5 := Option.some.inj e4
    exact (congrArg B8 e5).trans B8_zero
  clear he
  obtain ⟨bb, hl, c0, c1, g0, g1, g2⟩ : ∃ (bb : List (BitVec 8)) (hl : bb.length = 256), AFn Try.prog 18 [nodeA true nilA nilA nilA nilA] (.tup [bytesA bb, intA 0]) ∧ AFn Try.prog 14 [bytesA bb] (.tup [nodeA true (entsA []) (intsA []) (keysA []) (msgsA []), intA 0]) ∧ B8 (bb[0]'(by omega)) = 1 ∧ B8 (bb[1]'(by omega)) = 0 ∧ B8 (bb[255]'(by omega)) = 0 := ⟨_, hl, c0, c1, g0, g1, g2⟩
  have hl' : (bb.length : Int) = 256 := by omega
  refine AFn_intro Try.func12 rfl Try.ntmps12 rfl (by simp) [_] rfl fun E hE => ?_; have hnt : (!true) = false := rfl; have hnf : (!false) = true := rfl
  have d0 := acall Try.func18 (c0) (by decide +kernel) (by decide +kernel)
  have d1 := acall Try.func14 (c1) (by decide +kernel) (by decide +kernel)
  have d2 := acall Try.func18 (c2) (by decide +kernel) (by decide +kernel)
  have d3 := acall Try.func14 (c3) (by decide +kernel) (by decide +kernel)
  have d4 := acall Try.func14 (c4) (by decide +kernel) (by decide +kernel)
  refine wT ?_
  exact fin ⟨res_of rfl rfl rfl, trivial⟩
set_option maxRecDepth 100000 in
set_option maxHeartbeats 8000000 in
theorem a_codecRaw (n : Nd) : AFn Try.prog 4 [n.av] (boolA true) := by
  have f1 := a_few n
  cases qa : fewB n with
  | false =>
    rw [qa] at f1
    refine AFn_intro Try.func4 rfl Try.ntmps4 rfl (by simp) [_] rfl fun E hE => ?_; have hnt : (!true) = false := rfl; have hnf : (!false) = true := rfl
    have d1 := acall Try.func13 (f1) (by decide +kernel) (by decide +kernel)
    have d4 := acall Try.func12 (a_awake11) (by decide +kernel) (by decide +kernel)
    refine wX ?_
    exact fin ⟨res_of rfl rfl rfl, trivial⟩
  | true =>
    rw [qa] at f1
    have c2 := a_codes n (few_sm qa)
    refine AFn_intro Try.func4 rfl Try.ntmps4 rfl (by simp) [_] rfl fun E hE => ?_; have hnt : (!true) = false := rfl; have hnf : (!false) = true := rfl
    have d1 := acall Try.func13 (f1) (by decide +kernel) (by decide +kernel)
    have d2 := acall Try.func9 (c2) (by decide +kernel) (by decide +kernel)
    have d4 := acall Try.func12 (a_awake11) (by decide +kernel) (by decide +kernel)
    refine wX ?_
    exact fin ⟨res_of rfl rfl rfl, trivial⟩
theorem codecRaw_walk (v0 : Value) (x0 : Nd) (w : World) (s0 : NodeV w v0 x0) :
    Calls Try.prog 4 #[v0] w (Is w (.bool true)) :=
  law_of (a_codecRaw x0) (rdp_cons rfl (node_in s0) rdp_nil')
end Go.Proofs.Ytcmdhpinelnclaa
