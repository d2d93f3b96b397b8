/-
  M7: several texts as one: LawCodec1, CodecTurn, LawCodec2, CodecBytes, CodecTurned, CodecOnce, CodecApart. No condition beyond those that each theorem states.
-/
import Derived.Test.YtcmdhpinelnclaaM6
namespace Go.Proofs.Ytcmdhpinelnclaa
open Go Go.RowKit
set_option linter.unusedVariables false
set_option linter.unusedSimpArgs false
set_option maxRecDepth 100000

def fewB (n : Nd) : Bool := decide (n.es.length ≤ 80) && decide (n.ks.length ≤ 20) && decide (n.ps.length ≤ 20) && decide (n.ms.length ≤ 60)
theorem decode_sm (b : List (BitVec 8)) : (decode b).1.Sm := by
  unfold decode
  split
  · split
    · split
      · exact rdNode_sm b
      · exact zero_sm
    · exact zero_sm
  · exact zero_sm
section
variable {E : Env} {nt : Nat} {ops : Array Oper} {T : Nat → Option AV} {H : Hp} {d : Option Nat} {ty : TypeId} {pos : String} {af : Array Edge} {gd : Option (Nat × Bool)}
/-- make, as a list -/
theorem ob_makeT {t e : TypeId} {es bytes : Nat} {ea : Bool} {x y : Operand} {k k' : IntKind} {n : Nat} {f : BitVec 8 → AV} {z : BitVec 8} {g : Nat} {m m' : Int} (hd : dOk nt (some g) = true) (hs : tabT.ti t = some (.sl e (es + 1) bytes ea)) (hz : zeroT e = some (f z)) (hx : evalO T x = some (.v (.int k m))) (hy : evalO T y = some (.v (.int k' m'))) (hm : natOf m = some n) (hm' : natOf m' = some n) (hg : H g = none) (hb : bytes * n ≤ 140737488355328) (hn : n ≤ 9223372036854775807) :
    OpOK Try.prog E nt ops ⟨some g, .makeSlice t x y, ty, pos, af, gd⟩ T H [] ⟨.sl (some g) (es + 1) ((List.replicate n z).map f), [(g, .tail e (es + 1) n)]⟩ := by
  have := natOf_eq hm; subst this
  have := natOf_eq hm'; subst this
  rw [List.map_replicate]
  refine ok_eff hd fun B T' H' a w r ht hh hw' => ?_
  have hg' : H' g = none := (hw' (g, .tail e (es + 1) n) (by simp)).trans hg
  have e1 := r.evalv ((ht x (by simp [Op.operands])).trans hx)
  have e2 := r.evalv ((ht y (by simp [Op.operands])).trans hy)
  obtain ⟨_, hu, hte, i, zv, z1, z2, z3, z4, z5⟩ := tabT.ok t _ hs
  obtain ⟨i', zv', y1, y2, y3⟩ := zeroT_ok hz
  rw [z1] at y1; injection y1 with y1; subst y1
  rw [z2] at y2; injection y2 with y2; subst y2
  have hrun := run_make (P := Try.prog) w t e i zv hu z1 z2 k k' n n (by omega) (Int.le_refl _) (by rw [z4]; exact imul_le _ _ hb) (by omega)
  simp only [Int.toNat_natCast, z3] at hrun
  have hmd := made_rdu (U := unst E B H') (w := w) (y3 _ _) (by rw [z5]; omega) n
  rw [z5] at hmd
  have hml := Rdu_len hmd
  obtain ⟨k1, k2⟩ := r.newRow (e := e) (k := n) (cap := n) (ys := List.replicate n (f z)) (cs := (madeCells zv.cells (n * (es + 1))).toList) hg' (Nat.succ_pos es) (by rw [← hml, List.take_length]; exact hmd) (by simp) (by rw [hml]; simp) (Nat.le_refl _) (by unfold maxLen; omega)
  rw [Array.toArray_toList] at k1 k2
  have hfin : (execOp a.eval ⟨some g, .makeSlice t x y, ty, pos, af, gd⟩).run Try.prog w = .ok (.value (.slice (some ⟨w.heap.size, 0, none⟩) n n)) (w.alloc (.cells (madeCells zv.cells (n * (es + 1))) e)) := by
    simp [execOp, e1, e2, hrun]
  exact ⟨_, _, _, hfin, k1, by rw [Rdv_not (by simp)]; exact ⟨_, k2, rfl⟩⟩
end
theorem wT {Q R : Prop} (k : R) (h : Hid R → Q := by intro kHid; (repeat (first | (first | refine Wend _ ?_ | refine AW_seq ?_ | refine AW_reg ?_ | refine AW_drw mixed ?_ | refine AW_block ?_ | refine AW_scope ?_ | refine thenA_n ?_ | refine blockA_n ?_ | refine blockA_h ?_ | refine scopeA_n ?_ | refine thenA_r ?_ | refine blockA_r ?_ | refine scopeA_r ?_ | refine thenA_e ?_ | refine scopeA_e ?_ | refine blockA_e rfl ?_ | refine AW_exit ?_ | refine AW_ret ?_ | refine AW_skip ?_ | refine AW_c rfl ?_ | with_reducible refine cb_t ?_ | with_reducible refine cb_f ?_ | with_reducible refine cb_yes (by first | assumption | omega) ?_ | with_reducible refine cb_no (by first | assumption | omega) ?_ | refine And.intro (by decide +kernel) ?_) | (first | (apply Wv; (focus (first | exact step_ok rfl rfl | exact ok_nilc rfl rfl | exact o_idx rfl rfl rfl rfl (by first | assumption | omega | decide) | exact o_idx3 rfl rfl rfl rfl (by first | assumption | omega | decide) | exact o_idx2 rfl rfl rfl rfl rfl (by first | assumption | omega | decide | exact Nat.lt_of_lt_of_le (m := 256) (by decide) (by omega)) | exact o_idxr rfl rfl rfl rfl rfl rfl | exact o_lenm rfl rfl rfl | exact o_len rfl rfl rfl | exact o_len0 rfl rfl rfl | exact o_lens rfl rfl rfl | exact o_lent rfl rfl | exact ob_len rfl rfl rfl rfl (by first | rfl | assumption | omega | (simp; done) | (simp; omega)) | exact o_add1 rfl rfl rfl (by omega) | exact o_addn rfl rfl rfl (by omega) | exact o_addc rfl rfl rfl (by omega) (by omega) | exact o_add rfl rfl rfl (by omega) | exact o_sub1 rfl rfl rfl (by omega) | exact o_sub rfl rfl rfl (by omega) | exact o_acall rfl rfl rfl rfl (by assumption) | exact o_convb ⟨_, Try.underlying3⟩ Try.underlying5 rfl rfl | exact o_convu ⟨_, Try.underlying3⟩ Try.underlying71 rfl rfl | exact o_cv32 ⟨_, Try.underlying77⟩ Try.underlying71 rfl rfl | exact o_cvk ⟨_, Try.underlying71⟩ Try.underlying3 rfl rfl | exact o_cv8 ⟨_, Try.underlying5⟩ Try.underlying3 rfl rfl | exact o_convs Try.underlying33 Try.underlying5 Try.underlying9 rfl rfl | exact ob_cutr rfl rfl rfl (by simp) (by decide) | exact ob_cutf rfl rfl rfl rfl rfl rfl (by simp) (by decide) | exact ob_cutfh rfl rfl rfl rfl rfl rfl rfl (by first | assumption | omega) (by simp) (by decide) | exact ok_cut_arr tabT rfl rfl rfl bnd_none (Nat.le_refl _) (by decide) | exact o_cutlh rfl rfl rfl rfl rfl (by omega) (by omega) | exact o_cutl rfl rfl rfl rfl (by omega) | exact o_cuth rfl rfl rfl rfl (by omega) | exact o_cutl3 rfl rfl rfl rfl (by omega) | exact o_cuth3 rfl rfl rfl rfl (by omega) | exact o_cutl2 rfl rfl rfl rfl rfl (by omega) | exact o_cuth2 rfl rfl rfl rfl rfl (by omega) | exact o_cutlh2 rfl rfl rfl rfl rfl rfl rfl (by first | omega | decide) (by first | omega | exact Nat.le_trans (m := 256) (by decide) (by omega)) | exact ob_cutl rfl rfl rfl rfl rfl rfl (by first | rfl | assumption | omega | (simp; done) | (simp; omega)) (by first | rfl | assumption | omega | (simp; done) | (simp; omega)) | exact ob_cutlh rfl rfl rfl rfl rfl rfl rfl rfl (by first | rfl | assumption | omega | (simp; done) | (simp; omega)) (by first | rfl | assumption | omega | (simp; done) | (simp; omega)) (by first | rfl | assumption | omega | (simp; done) | (simp; omega)) | exact ob_idx rfl rfl rfl rfl rfl rfl (by first | rfl | assumption | omega | (simp; done) | (simp; omega)) (by first | rfl | assumption | omega | (simp; done) | (simp; omega)) | exact ob_ld rfl rfl rfl (by first | rfl | assumption | omega | (simp; done) | (simp; omega)) (by first | rfl | assumption | omega | (simp; done) | (simp; omega)) rfl rfl | exact ob_eqs rfl rfl rfl | exact ob_nes rfl rfl rfl | exact o_bld zero_reader rfl rfl rfl rfl rfl rfl rfl | exact o_mkfnF rfl rfl rfl | exact o_bld zero_refreader rfl rfl rfl rfl rfl rfl rfl | exact e_bld rfl rfl rfl | exact e_bldk rfl rfl | exact z_bld0 rfl rfl rfl rfl rfl | exact z_bld rfl rfl rfl rfl rfl rfl rfl | exact o_mkfn rfl rfl rfl | exact o_xorb rfl rfl rfl)); (focus (first | exact want_n | exact want_g rfl (by with_reducible rfl)))) | (apply Wb; (focus (first | exact o_box rfl rfl rfl rfl | exact ob_app rfl rfl rfl rfl rfl (by first | exact o_many rfl | exact o_one _ _ rfl | exact o_zero rfl) (by first | rfl | assumption | omega | (simp; done) | (simp; omega)) (by first | omega | (simp; omega) | (simp; done)) (by first | omega | (simp; omega) | (simp; done)) | exact oo_app0 rfl rfl rfl rfl rfl (by first | exact o_many rfl | exact o_one _ _ rfl | exact o_zero rfl) (by first | omega | (simp; omega) | (simp; done)) (by first | omega | (simp; omega) | (simp; done)) | exact o_app rfl rfl rfl rfl rfl (by first | exact o_many rfl | exact o_one _ _ rfl | exact o_zero rfl) (by first | omega | (simp; omega) | (simp; done)) (by first | omega | (simp; omega) | (simp; done)) | exact o_appn rfl rfl rfl rfl rfl (by first | exact o_many rfl | exact o_one _ _ rfl | exact o_zero rfl) (by first | omega | (simp; omega) | (simp; done)) (by first | omega | (simp; omega) | (simp; done)) | exact o_app1 rfl rfl rfl rfl rfl (by first | exact o_many rfl | exact o_one _ _ rfl | exact o_zero rfl) (by exact rfl) (by first | omega | (simp; omega) | (simp; done)) (by first | omega | (simp; omega) | (simp; done)) | exact o_app0 rfl rfl rfl rfl rfl (by first | exact o_many rfl | exact o_one _ _ rfl | exact o_zero rfl) (by first | omega | (simp; omega) | (simp; done)) (by first | omega | (simp; omega) | (simp; done)) | exact o_bsl0O rfl rfl rfl | exact z_bsll rfl rfl rfl rfl rfl rfl rfl rfl rfl | exact z_alloc rfl rfl rfl | exact ob_copy rfl rfl rfl rfl rfl (by first | rfl | assumption | omega | (simp; done) | (simp; omega)) (by first | rfl | assumption | omega | (simp; done) | (simp; omega)) (by first | rfl | assumption | omega | (simp; done) | (simp; omega)) (by first | rfl | assumption | omega | (simp; done) | (simp; omega)) | exact ob_zeros (f := byteA) (z := 0#8) Try.underlying3 rfl rfl rfl rfl rfl rfl (by omega) (by first | rfl | assumption | omega | (simp; done) | (simp; omega)) (by first | omega | (simp; omega) | (simp; done)) (by first | omega | (simp; omega) | (simp; done)) | exact ob_makeT (f := byteA) (z := 0#8) rfl rfl rfl rfl rfl rfl rfl rfl (by decide) (by decide))); (focus (first | exact want_n | exact want_g rfl (by with_reducible rfl)))) | (apply Ws; (focus (first | exact ob_st rfl rfl rfl (by first | rfl | assumption | omega | (simp; done) | (simp; omega)) (by first | rfl | assumption | omega | (simp; done) | (simp; omega)) rfl (fun _ => rfl) rfl rfl | exact ob_st0 rfl rfl rfl (by first | rfl | assumption | omega | (simp; done) | (simp; omega)) (by first | rfl | assumption | omega | (simp; done) | (simp; omega)) rfl | exact ok_store tabT (d := none) rfl rfl rfl rfl rfl rfl rfl rfl rfl rfl | exact ob_clear (f := byteA) (z := 0#8) rfl rfl rfl rfl (by first | rfl | assumption | omega | (simp; done) | (simp; omega)) (by first | rfl | assumption | omega | (simp; done) | (simp; omega)) (by first | rfl | assumption | omega | (simp; done) | (simp; omega)))); (focus (first | exact want_n | exact want_g rfl (by with_reducible rfl)))) | (refine Wskip (by first | exact want_f rfl (by with_reducible exact b_nt) | exact want_f rfl (by with_reducible exact b_nf) | exact want_t rfl) rfl ?_) | refine Wgt rfl rfl (by first | assumption | omega | exact rfl) ?_ | refine Wgf rfl rfl (by first | assumption | omega | exact rfl) ?_ | (refine Wgb rfl rfl (by with_reducible assumption) ?_) | (refine cb_is _ (by assumption) ?_)))); exact kHid.out) : Q := h ⟨k⟩
def ndL : Nd := ⟨true, [], [], [], []⟩
theorem ndL_fits : nodeFits ndL = true := by
  unfold nodeFits nodeOk leafOk ndBytes ndL
  rw [if_pos rfl, if_pos rfl, if_pos rfl, entsOkB_true (fun j hj => absurd hj (by simp))]
  simp [eSum]
theorem zeros_sum : sumL (List.replicate 256 0#8) ≠ 0#32 := by decide +kernel
theorem zeros_decode : decode (List.replicate 256 0#8) = (Nd.zero, 5) := by
  have hb : bareB (List.replicate 256 0#8) = List.replicate 256 0#8 := by decide +kernel
  have hs : sumIn (List.replicate 256 0#8) = List.replicate 4 0#8 := rfl
  have hne : ¬ sum4 (bareB (List.replicate 256 0#8)) = sumIn (List.replicate 256 0#8) := by
    rw [hb, hs]
    intro k
    have := leNum_four (sumL (List.replicate 256 0#8))
    unfold sum4 at k
    rw [k] at this
    apply zeros_sum
    apply BitVec.eq_of_toNat_eq
    have h2 := congrArg BitVec.toNat this
    rw [BitVec.toNat_setWidth] at h2
    have h3 : (leNum (List.replicate 4 0#8)).toNat = 0 := by decide +kernel
    rw [h3] at h2
    have h4 := (sumL (List.replicate 256 0#8)).isLt
    rw [Nat.mod_eq_of_lt (by omega)] at h2
    exact h2.symm
  unfold decode
  rw [if_pos (by simp), if_neg hne]
attribute [local irreducible] OpOK AWops AW CondB Go2 AFn thenA inBlockA noGotoA orderOk wantedA
set_option maxRecDepth 100000 in
set_option maxHeartbeats 8000000 in
theorem a_awake11 : AFn Try.prog 12 [] (boolA true) := by
  have hf := ndL_fits
  have c0 := AFn_weak (a_cencode ndL (fits_sm hf)) (xs := [nodeA true nilA nilA nilA nilA]) (fun H => .cons (Wk.agg (.cons (Wk.data rfl) (.cons Wk.nil (.cons Wk.nil (.cons Wk.nil (.cons Wk.nil .nil)))))) .nil)
  have he : encode ndL = (encB ndL, 0) := by unfold encode; rw [if_pos hf]
  rw [he] at c0
  have hl := encB_len hf
  have c1 := a_cdecode (encB ndL) (by omega)
  rw [decode_enc hf] at c1
  have c2 := AFn_weak (a_cencode Nd.zero zero_sm) (xs := [nodeA false nilA nilA nilA nilA]) (fun H => .cons (Wk.agg (.cons (Wk.data rfl) (.cons Wk.nil (.cons Wk.nil (.cons Wk.nil (.cons Wk.nil .nil)))))) .nil)
  have hz : encode Nd.zero = ([], 4) := by unfold encode; rw [zero_nofit]; rfl
  rw [hz] at c2
  have hd : decode [] = (Nd.zero, 4) := by unfold decode; rw [if_neg (by simp)]
  have c3 := AFn_weak (a_cdecode [] (by simp)) (xs := [nilA]) (fun H => .cons Wk.nil .nil)
  rw [hd] at c3
  have c4 := a_cdecode (List.replicate 256 0#8) (by simp)
  rw [zeros_decode] at c4
  dsimp only at c0 c1 c2 c3 c4
  have g0 : B8 ((encB ndL)[0]'(by omega)) = 1 := by rw [byAt_get (by omega), enc_head hf (by omega), B8_one]; rfl
  have g1 : B8 ((encB ndL)[1]'(by omega)) = 0 := by rw [byAt_get (by omega), enc_head hf (by omega), ← B8_zero]; rfl
  have g2 : B8 ((encB ndL)[255]'(by omega)) = 0 := by
    have e1 : (encB ndL)[255]? = (rawB ndL)[255]? := put4_hi _ _ _ (by rw [rawB_len hf]; omega) (by rw [sum4_len]; omega)
    have e2 : (rawB ndL)[255]? = some 0#8 := by decide +kernel
    have e3 : (encB ndL)[255]? = some ((encB ndL)[255]'(by omega)) := List.getElem?_eq_getElem (by omega)
    have e4 : some ((encB ndL)[255]'(by omega)) = some 0#8 := (e3.symm.trans e1).trans e2
    have e5 := Option.some.inj e4
    exact (congrArg B8 e5).trans B8_zero
  clear he
  obtain ⟨bb, hl, c0, c1, g0, g1, g2⟩ : ∃ (bb : List (BitVec 8)) (hl : bb.length = 256), AFn Try.prog 18 [nodeA true nilA nilA nilA nilA] (.tup [bytesA bb, intA 0]) ∧ AFn Try.prog 14 [bytesA bb] (.tup [nodeA true (entsA []) (intsA []) (keysA []) (msgsA []), intA 0]) ∧ B8 (bb[0]'(by omega)) = 1 ∧ B8 (bb[1]'(by omega)) = 0 ∧ B8 (bb[255]'(by omega)) = 0 := ⟨_, hl, c0, c1, g0, g1, g2⟩
  have hl' : (bb.length : Int) = 256 := by omega
  refine AFn_intro Try.func12 rfl Try.ntmps12 rfl (by simp) [_] rfl fun E hE => ?_; have hnt : (!true) = false := rfl; have hnf : (!false) = true := rfl
  have d0 := acall Try.func18 (c0) (by decide +kernel) (by decide +kernel)
  have d1 := acall Try.func14 (c1) (by decide +kernel) (by decide +kernel)
  have d2 := acall Try.func18 (c2) (by decide +kernel) (by decide +kernel)
  have d3 := acall Try.func14 (c3) (by decide +kernel) (by decide +kernel)
  have d4 := acall Try.func14 (c4) (by decide +kernel) (by decide +kernel)
  refine wT ?_
  exact fin ⟨res_of rfl rfl rfl, trivial⟩
end Go.Proofs.Ytcmdhpinelnclaa

namespace Go.Proofs.Ytcmdhpinelnclaa
open Go Go.RowKit
set_option linter.unusedVariables false
set_option linter.unusedSimpArgs false
set_option maxRecDepth 100000

/-! ### a byte turned -/
theorem sum4_inj {a b : List (BitVec 8)} (h : sum4 a = sum4 b) : sumL a = sumL b := by
  have h1 := leNum_four (sumL a)
  have h2 := leNum_four (sumL b)
  unfold sum4 at h
  rw [h, h2] at h1
  apply BitVec.eq_of_toNat_eq
  have h3 := congrArg BitVec.toNat h1
  rw [BitVec.toNat_setWidth, BitVec.toNat_setWidth] at h3
  have := (sumL a).isLt
  have := (sumL b).isLt
  rw [Nat.mod_eq_of_lt (by omega), Nat.mod_eq_of_lt (by omega)] at h3
  exact h3.symm
def turn (b : List (BitVec 8)) (k : Nat) (x : BitVec 8) : List (BitVec 8) := b.set k (b.getD k 0#8 ^^^ x)
theorem turn_len (b : List (BitVec 8)) (k : Nat) (x : BitVec 8) : (turn b k x).length = b.length := by unfold turn; simp
theorem turn_other {b : List (BitVec 8)} {k i : Nat} {x : BitVec 8} (h : i ≠ k) : (turn b k x)[i]? = b[i]? := by
  unfold turn
  rw [List.getElem?_set, if_neg (fun e => h e.symm)]
theorem turn_at {b : List (BitVec 8)} {k : Nat} {x : BitVec 8} (h : k < b.length) : (turn b k x)[k]? = some (b.getD k 0#8 ^^^ x) := by
  unfold turn
  rw [List.getElem?_set, if_pos rfl, if_pos h]
theorem getD_some {b : List (BitVec 8)} {k : Nat} (h : k < b.length) : b[k]? = some (b.getD k 0#8) := by
  rw [List.getD_eq_getElem?_getD, List.getElem?_eq_getElem h]; rfl
theorem xor_ne {a x : BitVec 8} (hx : x ≠ 0#8) : a ^^^ x ≠ a := fun h => hx (by
  have := congrArg (a ^^^ ·) h
  simpa [← BitVec.xor_assoc] using this)
theorem bare_len {b : List (BitVec 8)} (h : b.length = 256) : (bareB b).length = 256 := by unfold bareB; rw [put4_len _ _ _ (by simp; omega), h]
theorem sumIn_get {b : List (BitVec 8)} {i : Nat} (hi : i < 4) : (sumIn b)[i]? = b[4 + i]? := by
  unfold sumIn
  rw [List.getElem?_drop, List.getElem?_take, if_pos (by omega)]
theorem sumIn_len {b : List (BitVec 8)} (h : b.length = 256) : (sumIn b).length = 4 := by unfold sumIn; rw [List.length_drop, List.length_take]; omega
theorem bare_in {b : List (BitVec 8)} (h : b.length = 256) {k : Nat} {x : BitVec 8} (hk : 4 ≤ k ∧ k < 8) : bareB (turn b k x) = bareB b := by
  have ht := turn_len b k x
  unfold bareB
  apply List.ext_getElem?
  intro i
  by_cases h1 : i < 4
  · rw [put4_lo _ _ _ (by omega) h1, put4_lo _ _ _ (by omega) h1, turn_other (by omega)]
  · by_cases h2 : i < 8
    · rw [put4_in _ _ _ (by omega) (by omega) (by simp; omega), put4_in _ _ _ (by omega) (by omega) (by simp; omega)]
    · rw [put4_hi _ _ _ (by omega) (by simp; omega), put4_hi _ _ _ (by omega) (by simp; omega), turn_other (by omega)]
theorem bare_out {b : List (BitVec 8)} (h : b.length = 256) {k : Nat} {x : BitVec 8} (hk : k < 256) (ho : k < 4 ∨ 8 ≤ k) : bareB (turn b k x) = turn (bareB b) k x ∧ (bareB b).getD k 0#8 = b.getD k 0#8 := by
  have ht := turn_len b k x
  have hbl := bare_len h
  have e1 : (bareB b)[k]? = b[k]? := by
    unfold bareB
    rcases ho with ho | ho
    · exact put4_lo _ _ _ (by omega) ho
    · exact put4_hi _ _ _ (by omega) (by simp; omega)
  have e2 : (bareB b).getD k 0#8 = b.getD k 0#8 := by rw [List.getD_eq_getElem?_getD, List.getD_eq_getElem?_getD, e1]
  refine ⟨?_, e2⟩
  apply List.ext_getElem?
  intro i
  by_cases hi : i = k
  · subst hi
    rw [turn_at (by omega), e2]
    have : (bareB (turn b i x))[i]? = (turn b i x)[i]? := by
      unfold bareB
      rcases ho with ho | ho
      · exact put4_lo _ _ _ (by omega) ho
      · exact put4_hi _ _ _ (by omega) (by simp; omega)
    rw [this, turn_at (by omega)]
  · rw [turn_other hi]
    unfold bareB
    by_cases h1 : i < 4
    · rw [put4_lo _ _ _ (by omega) h1, put4_lo _ _ _ (by omega) h1, turn_other hi]
    · by_cases h2 : i < 8
      · rw [put4_in _ _ _ (by omega) (by omega) (by simp; omega), put4_in _ _ _ (by omega) (by omega) (by simp; omega)]
      · rw [put4_hi _ _ _ (by omega) (by simp; omega), put4_hi _ _ _ (by omega) (by simp; omega), turn_other hi]
theorem sum_turned {b : List (BitVec 8)} (h : b.length = 256) (hs : sum4 (bareB b) = sumIn b) {k : Nat} (hk : k < 256) {x : BitVec 8} (hx : x ≠ 0#8) : sum4 (bareB (turn b k x)) ≠ sumIn (turn b k x) := by
  by_cases hi : 4 ≤ k ∧ k < 8
  · rw [bare_in h hi, hs]
    intro e
    have e1 : (sumIn b)[k - 4]? = (sumIn (turn b k x))[k - 4]? := by rw [← e]
    rw [sumIn_get (by omega), sumIn_get (by omega), show 4 + (k - 4) = k by omega, turn_at (by omega), getD_some (by omega)] at e1
    exact xor_ne hx (Option.some.inj e1).symm
  · have ho : k < 4 ∨ 8 ≤ k := by omega
    obtain ⟨e1, e2⟩ := bare_out h hk ho (x := x)
    have e3 : sumIn (turn b k x) = sumIn b := by
      apply List.ext_getElem?
      intro i
      by_cases c : i < 4
      · rw [sumIn_get c, sumIn_get c, turn_other (by omega)]
      · rw [List.getElem?_eq_none (by rw [sumIn_len (by rw [turn_len]; exact h)]; omega), List.getElem?_eq_none (by rw [sumIn_len h]; omega)]
    rw [e3, ← hs, e1]
    intro e
    have hbl := bare_len h
    have := sum4_inj e
    have k2 : k < (bareB b).length := by omega
    have ht : turn (bareB b) k x = (bareB b).set k ((bareB b)[k] ^^^ x) := by
      unfold turn
      rw [List.getD_eq_getElem?_getD, List.getElem?_eq_getElem k2]; rfl
    rw [ht] at this
    exact hx ((sumL_turned (bareB b) k k2 x).1 this.symm)
theorem turn_zero {b : List (BitVec 8)} {k : Nat} (h : k < b.length) : turn b k 0#8 = b := by
  apply List.ext_getElem?
  intro i
  by_cases hi : i = k
  · subst hi; rw [turn_at h, getD_some h]; simp
  · rw [turn_other hi]
theorem decode_turned {n : Nd} (h : nodeFits n = true) {k : Nat} (hk : k < 256) {x : BitVec 8} (hx : x ≠ 0#8) : decode (turn (encB n) k x) = (Nd.zero, 5) := by
  unfold decode
  rw [if_pos (by rw [turn_len, encB_len h]), if_neg (sum_turned (encB_len h) (enc_sum h) hk hx)]
/-! ### with the sum put right -/
def wholeB (b : List (BitVec 8)) : List (BitVec 8) := put4 (bareB b) 4 (sum4 (bareB b))
theorem whole_len {b : List (BitVec 8)} (h : b.length = 256) : (wholeB b).length = 256 := by
  unfold wholeB; rw [put4_len _ _ _ (by rw [bare_len h, sum4_len]; omega), bare_len h]
theorem whole_sum {b : List (BitVec 8)} (h : b.length = 256) : sum4 (bareB (wholeB b)) = sumIn (wholeB b) := by
  have hl := bare_len h
  have e : bareB (wholeB b) = bareB b := by
    unfold wholeB
    unfold bareB
    rw [put4_put4 _ _ _ _ (by rw [sum4_len]; rfl) (by rw [sum4_len, put4_len _ _ _ (by simp; omega)]; omega), put4_put4 _ _ _ _ rfl (by simp; omega)]
  rw [e]
  exact (sumIn_put hl (sum4_len _)).symm
theorem whole_at {b : List (BitVec 8)} (h : b.length = 256) {k : Nat} (hk : k < 256) (ho : k < 4 ∨ 8 ≤ k) : (wholeB b)[k]? = b[k]? := by
  have hl := bare_len h
  have e1 : (bareB b)[k]? = b[k]? := by
    unfold bareB
    rcases ho with ho | ho
    · exact put4_lo _ _ _ (by omega) ho
    · exact put4_hi _ _ _ (by omega) (by simp; omega)
  rw [← e1]
  unfold wholeB
  rcases ho with ho | ho
  · exact put4_lo _ _ _ (by omega) ho
  · exact put4_hi _ _ _ (by omega) (by rw [sum4_len]; omega)
/-- a block with its sum right is a node, or none -/
theorem decode_whole {b : List (BitVec 8)} (h : b.length = 256) : (decode (wholeB b) = (Nd.zero, 4)) ∨ (∃ m, decode (wholeB b) = (m, 0) ∧ nodeFits m = true ∧ encB m = wholeB b) := by
  unfold decode
  rw [if_pos (whole_len h), if_pos (whole_sum h)]
  by_cases c : (rdNode (wholeB b)).2.bad = false ∧ (encode (rdNode (wholeB b)).1).2 = 0 ∧ (encode (rdNode (wholeB b)).1).1 = wholeB b
  · rw [if_pos c]
    obtain ⟨_, c2, c3⟩ := c
    refine .inr ⟨_, rfl, ?_, ?_⟩
    · cases hf : nodeFits (rdNode (wholeB b)).1 with
      | true => rfl
      | false =>
        unfold encode at c2
        rw [hf, if_neg (by simp)] at c2
        exact absurd c2 (by decide)
    · cases hf : nodeFits (rdNode (wholeB b)).1 with
      | true =>
        unfold encode at c3
        rw [if_pos hf] at c3
        exact c3
      | false =>
        unfold encode at c2
        rw [hf, if_neg (by simp)] at c2
        exact absurd c2 (by decide)
  · rw [if_neg c]; exact .inl rfl
theorem turned_ne {n m : Nd} (hn : nodeFits n = true) (hm : nodeFits m = true) {k : Nat} (hk : k < 256) (ho : k < 4 ∨ 8 ≤ k) {x : BitVec 8} (hx : x ≠ 0#8) (he : encB m = wholeB (turn (encB n) k x)) : m ≠ n := fun e => by
  subst e
  have hl := encB_len hm
  have h1 := whole_at (b := turn (encB m) k x) (by rw [turn_len, hl]) hk ho
  rw [← he, turn_at (by omega), getD_some (by omega)] at h1
  exact xor_ne hx (Option.some.inj h1).symm
/-! ### steps -/
section
variable {E : Env} {nt : Nat} {ops : Array Oper} {T : Nat → Option AV} {H : Hp} {d : Option Nat} {ty : TypeId} {pos : String} {af : Array Edge} {gd : Option (Nat × Bool)}
/-- a byte's rest -/
theorem o_remb {t t' : TypeId} {x y : Operand} {a : BitVec 8} {m : Int} {k : Nat} (hd : dOk nt d = true) (hx : evalO T x = some (byteA a)) (hy : evalO T y = some (.v (.int .u8 m))) (h0 : m ≠ 0) (hm : natOf m = some k) : OpOK Try.prog E nt ops ⟨d, .binOp .rem t x y t', ty, pos, af, gd⟩ T H [] ⟨byteA (BitVec.ofNat 8 (a.toNat % k)), []⟩ := by
  have := natOf_eq hm; subst this
  refine ok_rem hd hx hy h0 ?_
  have hk : 0 < k := by omega
  rw [B8_def, B8_def, BitVec.toNat_ofNat]
  have h1 := a.isLt
  have h2 : a.toNat % k ≤ a.toNat := Nat.mod_le _ _
  rw [Nat.mod_eq_of_lt (by omega)]
  exact (Int.ofNat_tmod a.toNat k).symm
/-- a copy of as much as there is room for -/
theorem ob_copyM {x y : Operand} {t tx e : TypeId} {es bytes : Nat} {ea : Bool} {g len off l : Nat} {f : BitVec 8 → AV} {tok : Option Nat} {xs ys : List (BitVec 8)} (hd : dOk nt d = true) (hs : tabT.ti t = some (.sl e es bytes ea)) (hx : evalO T x = some (.own g es len (.part off l))) (hy : evalO T y = some (.sl tok es (ys.map f)))
    (hg : H g = some (.own e es (xs.map f))) (hln : len = xs.length) (h0 : 0 < len) (hfit : off + l ≤ len) :
    OpOK Try.prog E nt ops ⟨d, .call { callee := .builtin .copy, args := #[x, y], argTypes := #[t, tx] }, ty, pos, af, gd⟩ T H [g] ⟨.v (.int .i64 (min ys.length l : Nat)), [(g, .own e es ((put4 xs off (ys.take l)).map f))]⟩ :=
  ok_eff hd fun B T' H' a w r ht hh hw => by
    subst hln
    have hg' : H' g = some (.own e es (xs.map f)) := (hh g (by simp)).trans hg
    have h := own_v (r.eval ((ht x (by simp [Op.operands, Call.operands])).trans hx))
    obtain ⟨s1, news, s2, s3⟩ := srcn_sl (P := Try.prog) E B H' w _ (min ys.length l) (by rw [List.length_map]; exact Nat.min_le_left _ _) (r.eval ((ht y (by simp [Op.operands, Call.operands])).trans hy))
    have et : (ys.map f).take (min ys.length l) = (ys.take l).map f := by
      rw [← List.map_take]
      congr 1
      by_cases c : ys.length ≤ l
      · rw [Nat.min_eq_left c, List.take_length, List.take_of_length_le c]
      · rw [Nat.min_eq_right (by omega)]
    rw [et] at s3
    obtain ⟨hn1, hn2⟩ := h.now hg' (by simp)
    obtain ⟨hpos, hbox⟩ := r.ownAt hg'
    rcases hbox with ⟨k1, k2⟩ | ⟨b, cur, cp, c, k1, k2, _⟩
    · have : xs = [] := by simpa using k2
      subst this; simp at h0
    · obtain ⟨cu, m1, cap, hv, h4, h5, h6⟩ := hn2 b k1
      obtain ⟨q1, q2⟩ := r.ownSet (P := Try.prog) (off := off) hg' k1 m1 s3 (by rw [List.length_map, List.length_map, List.length_take]; omega)
      obtain ⟨_, hu, he, _⟩ := tabT.ok t _ hs
      have hzz := run_sizeOf_of he w
      have hmin : Nat.min ys.length l = min ys.length l := rfl
      rw [List.length_map] at s1
      have e2 : (xs.map f).take off ++ ((ys.take l).map f ++ (xs.map f).drop (off + ((ys.take l).map f).length)) = (put4 xs off (ys.take l)).map f := by
        unfold put4
        simp only [List.map_append, List.map_take, List.map_drop, List.length_map, List.length_take]
      rw [e2] at q2
      refine ⟨.int .i64 (min ys.length l : Nat), _, B, ?_, q2, by rw [Rdv_v]; exact ⟨rfl, rfl⟩⟩
      simp [execOp, resolve, invoke, builtin, Builtin.copy_, hv, run_underlying hu, s1, hmin, hzz, s2, q1, goInt]
end
theorem wV {Q R : Prop} (k : R) (h : Hid R → Q := by intro kHid; (repeat (first | (first | refine Wend _ ?_ | refine AW_seq ?_ | refine AW_reg ?_ | refine AW_drw mixed ?_ | refine AW_block ?_ | refine AW_scope ?_ | refine thenA_n ?_ | refine blockA_n ?_ | refine blockA_h ?_ | refine scopeA_n ?_ | refine thenA_r ?_ | refine blockA_r ?_ | refine scopeA_r ?_ | refine thenA_e ?_ | refine scopeA_e ?_ | refine blockA_e rfl ?_ | refine AW_exit ?_ | refine AW_ret ?_ | refine AW_skip ?_ | refine AW_c rfl ?_ | with_reducible refine cb_t ?_ | with_reducible refine cb_f ?_ | with_reducible refine cb_yes (by first | assumption | omega) ?_ | with_reducible refine cb_no (by first | assumption | omega) ?_ | refine And.intro (by decide +kernel) ?_) | (first | (apply Wv; (focus (first | exact step_ok rfl rfl | exact ok_nilc rfl rfl | exact o_remb rfl rfl rfl (by decide) rfl | exact o_idx rfl rfl rfl rfl (by first | assumption | omega | decide) | exact o_idx3 rfl rfl rfl rfl (by first | assumption | omega | decide) | exact o_idx2 rfl rfl rfl rfl rfl (by first | assumption | omega | decide | exact Nat.lt_of_lt_of_le (m := 256) (by decide) (by omega)) | exact o_idxr rfl rfl rfl rfl rfl rfl | exact o_lenm rfl rfl rfl | exact o_len rfl rfl rfl | exact o_len0 rfl rfl rfl | exact o_lens rfl rfl rfl | exact o_lent rfl rfl | exact ob_len rfl rfl rfl rfl (by first | rfl | assumption | omega | (simp; done) | (simp; omega)) | exact o_add1 rfl rfl rfl (by omega) | exact o_addn rfl rfl rfl (by omega) | exact o_addc rfl rfl rfl (by omega) (by omega) | exact o_add rfl rfl rfl (by omega) | exact o_sub1 rfl rfl rfl (by omega) | exact o_sub rfl rfl rfl (by omega) | exact o_acall rfl rfl rfl rfl (by assumption) | exact o_convb ⟨_, Try.underlying3⟩ Try.underlying5 rfl rfl | exact o_convu ⟨_, Try.underlying3⟩ Try.underlying71 rfl rfl | exact o_cv32 ⟨_, Try.underlying77⟩ Try.underlying71 rfl rfl | exact o_cvk ⟨_, Try.underlying71⟩ Try.underlying3 rfl rfl | exact o_cv8 ⟨_, Try.underlying5⟩ Try.underlying3 rfl rfl | exact o_convs Try.underlying33 Try.underlying5 Try.underlying9 rfl rfl | exact ob_cutr rfl rfl rfl (by simp) (by decide) | exact ob_cutf rfl rfl rfl rfl rfl rfl (by simp) (by decide) | exact ob_cutfh rfl rfl rfl rfl rfl rfl rfl (by first | assumption | omega) (by simp) (by decide) | exact ok_cut_arr tabT rfl rfl rfl bnd_none (Nat.le_refl _) (by decide) | exact o_cutlh rfl rfl rfl rfl rfl (by omega) (by omega) | exact o_cutl rfl rfl rfl rfl (by omega) | exact o_cuth rfl rfl rfl rfl (by omega) | exact o_cutl3 rfl rfl rfl rfl (by omega) | exact o_cuth3 rfl rfl rfl rfl (by omega) | exact o_cutl2 rfl rfl rfl rfl rfl (by omega) | exact o_cuth2 rfl rfl rfl rfl rfl (by omega) | exact o_cutlh2 rfl rfl rfl rfl rfl rfl rfl (by first | omega | decide) (by first | omega | exact Nat.le_trans (m := 256) (by decide) (by omega)) | exact ob_cutl rfl rfl rfl rfl rfl rfl (by first | rfl | assumption | omega | (simp; done) | (simp; omega)) (by first | rfl | assumption | omega | (simp; done) | (simp; omega)) | exact ob_cutlh rfl rfl rfl rfl rfl rfl rfl rfl (by first | rfl | assumption | omega | (simp; done) | (simp; omega)) (by first | rfl | assumption | omega | (simp; done) | (simp; omega)) (by first | rfl | assumption | omega | (simp; done) | (simp; omega)) | exact ob_idx rfl rfl rfl rfl rfl rfl (by first | rfl | assumption | omega | (simp; done) | (simp; omega)) (by first | rfl | assumption | omega | (simp; done) | (simp; omega)) | exact ob_ld rfl rfl rfl (by first | rfl | assumption | omega | (simp; done) | (simp; omega)) (by first | rfl | assumption | omega | (simp; done) | (simp; omega)) rfl rfl | exact ob_eqs rfl rfl rfl | exact ob_nes rfl rfl rfl | exact o_bld zero_reader rfl rfl rfl rfl rfl rfl rfl | exact o_mkfnF rfl rfl rfl | exact o_bld zero_refreader rfl rfl rfl rfl rfl rfl rfl | exact e_bld rfl rfl rfl | exact e_bldk rfl rfl | exact z_bld0 rfl rfl rfl rfl rfl | exact z_bld rfl rfl rfl rfl rfl rfl rfl | exact o_mkfn rfl rfl rfl | exact o_xorb rfl rfl rfl)); (focus (first | exact want_n | exact want_g rfl (by with_reducible rfl)))) | (apply Wb; (focus (first | exact o_box rfl rfl rfl rfl | exact ob_app rfl rfl rfl rfl rfl (by first | exact o_many rfl | exact o_one _ _ rfl | exact o_zero rfl) (by first | rfl | assumption | omega | (simp; done) | (simp; omega)) (by first | omega | (simp; omega) | (simp; done)) (by first | omega | (simp; omega) | (simp; done)) | exact oo_app0 rfl rfl rfl rfl rfl (by first | exact o_many rfl | exact o_one _ _ rfl | exact o_zero rfl) (by first | omega | (simp; omega) | (simp; done)) (by first | omega | (simp; omega) | (simp; done)) | exact o_app rfl rfl rfl rfl rfl (by first | exact o_many rfl | exact o_one _ _ rfl | exact o_zero rfl) (by first | omega | (simp; omega) | (simp; done)) (by first | omega | (simp; omega) | (simp; done)) | exact o_appn rfl rfl rfl rfl rfl (by first | exact o_many rfl | exact o_one _ _ rfl | exact o_zero rfl) (by first | omega | (simp; omega) | (simp; done)) (by first | omega | (simp; omega) | (simp; done)) | exact o_app1 rfl rfl rfl rfl rfl (by first | exact o_many rfl | exact o_one _ _ rfl | exact o_zero rfl) (by exact rfl) (by first | omega | (simp; omega) | (simp; done)) (by first | omega | (simp; omega) | (simp; done)) | exact o_app0 rfl rfl rfl rfl rfl (by first | exact o_many rfl | exact o_one _ _ rfl | exact o_zero rfl) (by first | omega | (simp; omega) | (simp; done)) (by first | omega | (simp; omega) | (simp; done)) | exact o_bsl0 rfl rfl rfl | exact z_bsll rfl rfl rfl rfl rfl rfl rfl rfl rfl | exact z_alloc rfl rfl rfl | exact ob_copy rfl rfl rfl rfl rfl (by first | rfl | assumption | omega | (simp; done) | (simp; omega)) (by first | rfl | assumption | omega | (simp; done) | (simp; omega)) (by first | rfl | assumption | omega | (simp; done) | (simp; omega)) (by first | rfl | assumption | omega | (simp; done) | (simp; omega)) | exact ob_zeros (f := byteA) (z := 0#8) Try.underlying3 rfl rfl rfl rfl rfl rfl (by omega) (by first | rfl | assumption | omega | (simp; done) | (simp; omega)) (by first | omega | (simp; omega) | (simp; done)) (by first | omega | (simp; omega) | (simp; done)) | exact ob_makeT (f := byteA) (z := 0#8) rfl rfl rfl rfl rfl rfl rfl rfl (by decide) (by decide))); (focus (first | exact want_n | exact want_g rfl (by with_reducible rfl)))) | (apply Ws; (focus (first | exact ob_st rfl rfl rfl (by first | rfl | assumption | omega | (simp; done) | (simp; omega)) (by first | rfl | assumption | omega | (simp; done) | (simp; omega)) rfl (fun _ => rfl) rfl rfl | exact ob_st0 rfl rfl rfl (by first | rfl | assumption | omega | (simp; done) | (simp; omega)) (by first | rfl | assumption | omega | (simp; done) | (simp; omega)) rfl | exact ok_store tabT (d := none) rfl rfl rfl rfl rfl rfl rfl rfl rfl rfl | exact ob_clear (f := byteA) (z := 0#8) rfl rfl rfl rfl (by first | rfl | assumption | omega | (simp; done) | (simp; omega)) (by first | rfl | assumption | omega | (simp; done) | (simp; omega)) (by first | rfl | assumption | omega | (simp; done) | (simp; omega)))); (focus (first | exact want_n | exact want_g rfl (by with_reducible rfl)))) | (refine Wskip (by first | exact want_f rfl (by with_reducible exact b_nt) | exact want_f rfl (by with_reducible exact b_nf) | exact want_t rfl) rfl ?_) | refine Wgt rfl rfl (by first | assumption | omega | exact rfl) ?_ | refine Wgf rfl rfl (by first | assumption | omega | exact rfl) ?_ | (refine Wgb rfl rfl (by with_reducible assumption) ?_) | (refine cb_is _ (by assumption) ?_)))); exact kHid.out) : Q := h ⟨k⟩
theorem wRV {Q R : Prop} (k : R) (h : Hid R → Q := by intro kHid; (repeat (first | (first | refine Wend _ ?_ | refine AW_seq ?_ | refine AW_reg ?_ | refine AW_drw mixed ?_ | refine AW_block ?_ | refine AW_scope ?_ | refine blockA_n ?_ | refine blockA_h ?_ | refine scopeA_n ?_ | refine thenA_r ?_ | refine blockA_r ?_ | refine scopeA_r ?_ | refine thenA_e ?_ | refine scopeA_e ?_ | refine blockA_e rfl ?_ | refine AW_exit ?_ | refine AW_ret ?_ | refine AW_skip ?_ | refine AW_c rfl ?_ | with_reducible refine cb_t ?_ | with_reducible refine cb_f ?_ | with_reducible refine cb_yes (by first | assumption | omega) ?_ | with_reducible refine cb_no (by first | assumption | omega) ?_ | refine And.intro (by decide +kernel) ?_) | (first | (apply Wv; (focus (first | exact step_ok rfl rfl | exact ok_nilc rfl rfl | exact o_remb rfl rfl rfl (by decide) rfl | exact o_idx rfl rfl rfl rfl (by first | assumption | omega | decide) | exact o_idx3 rfl rfl rfl rfl (by first | assumption | omega | decide) | exact o_idx2 rfl rfl rfl rfl rfl (by first | assumption | omega | decide | exact Nat.lt_of_lt_of_le (m := 256) (by decide) (by omega)) | exact o_idxr rfl rfl rfl rfl rfl rfl | exact o_lenm rfl rfl rfl | exact o_len rfl rfl rfl | exact o_len0 rfl rfl rfl | exact o_lens rfl rfl rfl | exact o_lent rfl rfl | exact ob_len rfl rfl rfl rfl (by first | rfl | assumption | omega | (simp; done) | (simp; omega)) | exact o_add1 rfl rfl rfl (by omega) | exact o_addn rfl rfl rfl (by omega) | exact o_addc rfl rfl rfl (by omega) (by omega) | exact o_add rfl rfl rfl (by omega) | exact o_sub1 rfl rfl rfl (by omega) | exact o_sub rfl rfl rfl (by omega) | exact o_acall rfl rfl rfl rfl (by assumption) | exact o_convb ⟨_, Try.underlying3⟩ Try.underlying5 rfl rfl | exact o_convu ⟨_, Try.underlying3⟩ Try.underlying71 rfl rfl | exact o_cv32 ⟨_, Try.underlying77⟩ Try.underlying71 rfl rfl | exact o_cvk ⟨_, Try.underlying71⟩ Try.underlying3 rfl rfl | exact o_cv8 ⟨_, Try.underlying5⟩ Try.underlying3 rfl rfl | exact o_convs Try.underlying33 Try.underlying5 Try.underlying9 rfl rfl | exact ob_cutr rfl rfl rfl (by simp) (by decide) | exact ob_cutf rfl rfl rfl rfl rfl rfl (by simp) (by decide) | exact ob_cutfh rfl rfl rfl rfl rfl rfl rfl (by first | assumption | omega) (by simp) (by decide) | exact ok_cut_arr tabT rfl rfl rfl bnd_none (Nat.le_refl _) (by decide) | exact o_cutlh rfl rfl rfl rfl rfl (by omega) (by omega) | exact o_cutl rfl rfl rfl rfl (by omega) | exact o_cuth rfl rfl rfl rfl (by omega) | exact o_cutl3 rfl rfl rfl rfl (by omega) | exact o_cuth3 rfl rfl rfl rfl (by omega) | exact o_cutl2 rfl rfl rfl rfl rfl (by omega) | exact o_cuth2 rfl rfl rfl rfl rfl (by omega) | exact o_cutlh2 rfl rfl rfl rfl rfl rfl rfl (by first | omega | decide) (by first | omega | exact Nat.le_trans (m := 256) (by decide) (by omega)) | exact ob_cutl rfl rfl rfl rfl rfl rfl (by first | rfl | assumption | omega | (simp; done) | (simp; omega)) (by first | rfl | assumption | omega | (simp; done) | (simp; omega)) | exact ob_cutlh rfl rfl rfl rfl rfl rfl rfl rfl (by first | rfl | assumption | omega | (simp; done) | (simp; omega)) (by first | rfl | assumption | omega | (simp; done) | (simp; omega)) (by first | rfl | assumption | omega | (simp; done) | (simp; omega)) | exact ob_idx rfl rfl rfl rfl rfl rfl (by first | rfl | assumption | omega | (simp; done) | (simp; omega)) (by first | rfl | assumption | omega | (simp; done) | (simp; omega)) | exact ob_ld rfl rfl rfl (by first | rfl | assumption | omega | (simp; done) | (simp; omega)) (by first | rfl | assumption | omega | (simp; done) | (simp; omega)) rfl rfl | exact ob_eqs rfl rfl rfl | exact ob_nes rfl rfl rfl | exact o_bld zero_reader rfl rfl rfl rfl rfl rfl rfl | exact o_mkfnF rfl rfl rfl | exact o_bld zero_refreader rfl rfl rfl rfl rfl rfl rfl | exact e_bld rfl rfl rfl | exact e_bldk rfl rfl | exact z_bld0 rfl rfl rfl rfl rfl | exact z_bld rfl rfl rfl rfl rfl rfl rfl | exact o_mkfn rfl rfl rfl | exact o_xorb rfl rfl rfl)); (focus (first | exact want_n | exact want_g rfl (by with_reducible rfl)))) | (apply Wb; (focus (first | exact o_box rfl rfl rfl rfl | exact ob_app rfl rfl rfl rfl rfl (by first | exact o_many rfl | exact o_one _ _ rfl | exact o_zero rfl) (by first | rfl | assumption | omega | (simp; done) | (simp; omega)) (by first | omega | (simp; omega) | (simp; done)) (by first | omega | (simp; omega) | (simp; done)) | exact oo_app0 rfl rfl rfl rfl rfl (by first | exact o_many rfl | exact o_one _ _ rfl | exact o_zero rfl) (by first | omega | (simp; omega) | (simp; done)) (by first | omega | (simp; omega) | (simp; done)) | exact o_app rfl rfl rfl rfl rfl (by first | exact o_many rfl | exact o_one _ _ rfl | exact o_zero rfl) (by first | omega | (simp; omega) | (simp; done)) (by first | omega | (simp; omega) | (simp; done)) | exact o_appn rfl rfl rfl rfl rfl (by first | exact o_many rfl | exact o_one _ _ rfl | exact o_zero rfl) (by first | omega | (simp; omega) | (simp; done)) (by first | omega | (simp; omega) | (simp; done)) | exact o_app1 rfl rfl rfl rfl rfl (by first | exact o_many rfl | exact o_one _ _ rfl | exact o_zero rfl) (by exact rfl) (by first | omega | (simp; omega) | (simp; done)) (by first | omega | (simp; omega) | (simp; done)) | exact o_app0 rfl rfl rfl rfl rfl (by first | exact o_many rfl | exact o_one _ _ rfl | exact o_zero rfl) (by first | omega | (simp; omega) | (simp; done)) (by first | omega | (simp; omega) | (simp; done)) | exact o_bsl0 rfl rfl rfl | exact z_bsll rfl rfl rfl rfl rfl rfl rfl rfl rfl | exact z_alloc rfl rfl rfl | exact ob_copy rfl rfl rfl rfl rfl (by first | rfl | assumption | omega | (simp; done) | (simp; omega)) (by first | rfl | assumption | omega | (simp; done) | (simp; omega)) (by first | rfl | assumption | omega | (simp; done) | (simp; omega)) (by first | rfl | assumption | omega | (simp; done) | (simp; omega)) | exact ob_zeros (f := byteA) (z := 0#8) Try.underlying3 rfl rfl rfl rfl rfl rfl (by omega) (by first | rfl | assumption | omega | (simp; done) | (simp; omega)) (by first | omega | (simp; omega) | (simp; done)) (by first | omega | (simp; omega) | (simp; done)) | exact ob_makeT (f := byteA) (z := 0#8) rfl rfl rfl rfl rfl rfl rfl rfl (by decide) (by decide))); (focus (first | exact want_n | exact want_g rfl (by with_reducible rfl)))) | (apply Ws; (focus (first | exact ob_st rfl rfl rfl (by first | rfl | assumption | omega | (simp; done) | (simp; omega)) (by first | rfl | assumption | omega | (simp; done) | (simp; omega)) rfl (fun _ => rfl) rfl rfl | exact ob_st0 rfl rfl rfl (by first | rfl | assumption | omega | (simp; done) | (simp; omega)) (by first | rfl | assumption | omega | (simp; done) | (simp; omega)) rfl | exact ok_store tabT (d := none) rfl rfl rfl rfl rfl rfl rfl rfl rfl rfl | exact ob_clear (f := byteA) (z := 0#8) rfl rfl rfl rfl (by first | rfl | assumption | omega | (simp; done) | (simp; omega)) (by first | rfl | assumption | omega | (simp; done) | (simp; omega)) (by first | rfl | assumption | omega | (simp; done) | (simp; omega)))); (focus (first | exact want_n | exact want_g rfl (by with_reducible rfl)))) | (refine Wskip (by first | exact want_f rfl (by with_reducible exact b_nt) | exact want_f rfl (by with_reducible exact b_nf) | exact want_t rfl) rfl ?_) | refine Wgt rfl rfl (by first | assumption | omega | exact rfl) ?_ | refine Wgf rfl rfl (by first | assumption | omega | exact rfl) ?_ | (refine Wgb rfl rfl (by with_reducible assumption) ?_) | (refine cb_is _ (by assumption) ?_)))); exact kHid.out) : Q := h ⟨k⟩
theorem wRX {Q R : Prop} (k : R) (h : Hid R → Q := by intro kHid; (repeat (first | (first | refine Wend _ ?_ | refine AW_seq ?_ | refine AW_reg ?_ | refine AW_drw mixed ?_ | refine AW_block ?_ | refine AW_scope ?_ | refine blockA_n ?_ | refine blockA_h ?_ | refine scopeA_n ?_ | refine thenA_r ?_ | refine blockA_r ?_ | refine scopeA_r ?_ | refine thenA_e ?_ | refine scopeA_e ?_ | refine blockA_e rfl ?_ | refine AW_exit ?_ | refine AW_ret ?_ | refine AW_skip ?_ | refine AW_c rfl ?_ | with_reducible refine cb_t ?_ | with_reducible refine cb_f ?_ | with_reducible refine cb_yes (by first | assumption | omega) ?_ | with_reducible refine cb_no (by first | assumption | omega) ?_ | refine And.intro (by decide +kernel) ?_) | (first | (apply Wv; (focus (first | exact step_ok rfl rfl | exact ok_nilc rfl rfl | exact o_idx rfl rfl rfl rfl (by first | assumption | omega | decide) | exact o_idx3 rfl rfl rfl rfl (by first | assumption | omega | decide) | exact o_idx2 rfl rfl rfl rfl rfl (by first | assumption | omega | decide | exact Nat.lt_of_lt_of_le (m := 256) (by decide) (by omega)) | exact o_idxr rfl rfl rfl rfl rfl rfl | exact o_lenm rfl rfl rfl | exact o_len rfl rfl rfl | exact o_len0 rfl rfl rfl | exact o_lens rfl rfl rfl | exact o_lent rfl rfl | exact ob_len rfl rfl rfl rfl (by first | rfl | assumption | omega | (simp; done) | (simp; omega)) | exact o_add1 rfl rfl rfl (by omega) | exact o_addn rfl rfl rfl (by omega) | exact o_addc rfl rfl rfl (by omega) (by omega) | exact o_add rfl rfl rfl (by omega) | exact o_sub1 rfl rfl rfl (by omega) | exact o_sub rfl rfl rfl (by omega) | exact o_acall rfl rfl rfl rfl (by assumption) | exact o_convb ⟨_, Try.underlying3⟩ Try.underlying5 rfl rfl | exact o_convu ⟨_, Try.underlying3⟩ Try.underlying71 rfl rfl | exact o_cv32 ⟨_, Try.underlying77⟩ Try.underlying71 rfl rfl | exact o_cvk ⟨_, Try.underlying71⟩ Try.underlying3 rfl rfl | exact o_cv8 ⟨_, Try.underlying5⟩ Try.underlying3 rfl rfl | exact o_convs Try.underlying33 Try.underlying5 Try.underlying9 rfl rfl | exact ob_cutr rfl rfl rfl (by simp) (by decide) | exact ob_cutf rfl rfl rfl rfl rfl rfl (by simp) (by decide) | exact ob_cutfh rfl rfl rfl rfl rfl rfl rfl (by first | assumption | omega) (by simp) (by decide) | exact ok_cut_arr tabT rfl rfl rfl bnd_none (Nat.le_refl _) (by decide) | exact o_cutlh rfl rfl rfl rfl rfl (by omega) (by omega) | exact o_cutl rfl rfl rfl rfl (by omega) | exact o_cuth rfl rfl rfl rfl (by omega) | exact o_cutl3 rfl rfl rfl rfl (by omega) | exact o_cuth3 rfl rfl rfl rfl (by omega) | exact o_cutl2 rfl rfl rfl rfl rfl (by omega) | exact o_cuth2 rfl rfl rfl rfl rfl (by omega) | exact o_cutlh2 rfl rfl rfl rfl rfl rfl rfl (by first | omega | decide) (by first | omega | exact Nat.le_trans (m := 256) (by decide) (by omega)) | exact ob_cutl rfl rfl rfl rfl rfl rfl (by first | rfl | assumption | omega | (simp; done) | (simp; omega)) (by first | rfl | assumption | omega | (simp; done) | (simp; omega)) | exact ob_cutlh rfl rfl rfl rfl rfl rfl rfl rfl (by first | rfl | assumption | omega | (simp; done) | (simp; omega)) (by first | rfl | assumption | omega | (simp; done) | (simp; omega)) (by first | rfl | assumption | omega | (simp; done) | (simp; omega)) | exact ob_idx rfl rfl rfl rfl rfl rfl (by first | rfl | assumption | omega | (simp; done) | (simp; omega)) (by first | rfl | assumption | omega | (simp; done) | (simp; omega)) | exact ob_ld rfl rfl rfl (by first | rfl | assumption | omega | (simp; done) | (simp; omega)) (by first | rfl | assumption | omega | (simp; done) | (simp; omega)) rfl rfl | exact ob_eqs rfl rfl rfl | exact ob_nes rfl rfl rfl | exact o_bld zero_reader rfl rfl rfl rfl rfl rfl rfl | exact o_mkfnF rfl rfl rfl | exact o_bld zero_refreader rfl rfl rfl rfl rfl rfl rfl | exact e_bld rfl rfl rfl | exact e_bldk rfl rfl | exact z_bld0 rfl rfl rfl rfl rfl | exact z_bld rfl rfl rfl rfl rfl rfl rfl | exact o_mkfn rfl rfl rfl | exact o_xorb rfl rfl rfl)); (focus (first | exact want_n | exact want_g rfl (by with_reducible rfl)))) | (apply Wb; (focus (first | exact o_box rfl rfl rfl rfl | exact ob_app rfl rfl rfl rfl rfl (by first | exact o_many rfl | exact o_one _ _ rfl | exact o_zero rfl) (by first | rfl | assumption | omega | (simp; done) | (simp; omega)) (by first | omega | (simp; omega) | (simp; done)) (by first | omega | (simp; omega) | (simp; done)) | exact oo_app0 rfl rfl rfl rfl rfl (by first | exact o_many rfl | exact o_one _ _ rfl | exact o_zero rfl) (by first | omega | (simp; omega) | (simp; done)) (by first | omega | (simp; omega) | (simp; done)) | exact o_app rfl rfl rfl rfl rfl (by first | exact o_many rfl | exact o_one _ _ rfl | exact o_zero rfl) (by first | omega | (simp; omega) | (simp; done)) (by first | omega | (simp; omega) | (simp; done)) | exact o_appn rfl rfl rfl rfl rfl (by first | exact o_many rfl | exact o_one _ _ rfl | exact o_zero rfl) (by first | omega | (simp; omega) | (simp; done)) (by first | omega | (simp; omega) | (simp; done)) | exact o_app1 rfl rfl rfl rfl rfl (by first | exact o_many rfl | exact o_one _ _ rfl | exact o_zero rfl) (by exact rfl) (by first | omega | (simp; omega) | (simp; done)) (by first | omega | (simp; omega) | (simp; done)) | exact o_app0 rfl rfl rfl rfl rfl (by first | exact o_many rfl | exact o_one _ _ rfl | exact o_zero rfl) (by first | omega | (simp; omega) | (simp; done)) (by first | omega | (simp; omega) | (simp; done)) | exact o_bsl0O rfl rfl rfl | exact z_bsll rfl rfl rfl rfl rfl rfl rfl rfl rfl | exact z_alloc rfl rfl rfl | exact ob_copy rfl rfl rfl rfl rfl (by first | rfl | assumption | omega | (simp; done) | (simp; omega)) (by first | rfl | assumption | omega | (simp; done) | (simp; omega)) (by first | rfl | assumption | omega | (simp; done) | (simp; omega)) (by first | rfl | assumption | omega | (simp; done) | (simp; omega)) | exact ob_zeros (f := byteA) (z := 0#8) Try.underlying3 rfl rfl rfl rfl rfl rfl (by omega) (by first | rfl | assumption | omega | (simp; done) | (simp; omega)) (by first | omega | (simp; omega) | (simp; done)) (by first | omega | (simp; omega) | (simp; done)) | exact ob_make (f := byteA) (z := 0#8) rfl rfl rfl rfl rfl rfl rfl rfl (by decide) (by decide))); (focus (first | exact want_n | exact want_g rfl (by with_reducible rfl)))) | (apply Ws; (focus (first | exact ob_st rfl rfl rfl (by first | rfl | assumption | omega | (simp; done) | (simp; omega)) (by first | rfl | assumption | omega | (simp; done) | (simp; omega)) rfl (fun _ => rfl) rfl rfl | exact ob_st0 rfl rfl rfl (by first | rfl | assumption | omega | (simp; done) | (simp; omega)) (by first | rfl | assumption | omega | (simp; done) | (simp; omega)) rfl | exact ok_store tabT (d := none) rfl rfl rfl rfl rfl rfl rfl rfl rfl rfl | exact ob_clear (f := byteA) (z := 0#8) rfl rfl rfl rfl (by first | rfl | assumption | omega | (simp; done) | (simp; omega)) (by first | rfl | assumption | omega | (simp; done) | (simp; omega)) (by first | rfl | assumption | omega | (simp; done) | (simp; omega)))); (focus (first | exact want_n | exact want_g rfl (by with_reducible rfl)))) | (refine Wskip (by first | exact want_f rfl (by with_reducible exact b_nt) | exact want_f rfl (by with_reducible exact b_nf) | exact want_t rfl) rfl ?_) | refine Wgt rfl rfl (by first | assumption | omega | exact rfl) ?_ | refine Wgf rfl rfl (by first | assumption | omega | exact rfl) ?_ | (refine Wgb rfl rfl (by with_reducible assumption) ?_) | (refine cb_is _ (by assumption) ?_)))); exact kHid.out) : Q := h ⟨k⟩
attribute [local irreducible] OpOK AWops AW CondB Go2 AFn thenA inBlockA noGotoA orderOk wantedA
set_option maxRecDepth 100000 in
set_option maxHeartbeats 8000000 in
theorem a_whole (b : List (BitVec 8)) (h : b.length = 256) : AFn Try.prog 17 [bytesA b] (bytesA (wholeB b)) := by
  have hbs := bare_sets h
  have c1 := c_refsum ((((b.set 4 0#8).set 5 0#8).set 6 0#8).set 7 0#8)
  rw [show ((((b.set 4 0#8).set 5 0#8).set 6 0#8).set 7 0#8).length = b.length by simp] at c1
  have c2 := a_refputnil ((sumL (bareB b)).setWidth 64) 4 (by omega) (by omega)
  have hs4 := sum4_len (bareB b)
  unfold sum4 at hs4
  have hbl := bare_len h
  have hwl : (wholeB b).length = b.length := by rw [whole_len h, h]
  refine AFn_intro Try.func17 rfl Try.ntmps17 rfl (by simp) [_] rfl fun E hE => ?_; have hnt : (!true) = false := rfl; have hnf : (!false) = true := rfl
  have d1 := ccall Try.func37 (c1) (by decide +kernel) (by decide +kernel)
  have d2 := acall Try.func43 (c2) (by decide +kernel) (by decide +kernel)
  refine wX ?_
  (apply WvN [5]; (focus (exact o_rcall [(1000, 5)] d1 rfl rfl rfl rfl rfl (by repeat (first | exact .nil | refine .cons (.inl ⟨rfl, rfl⟩) ?_ | refine .cons (.inr ⟨rfl, fun _ => Wk.tok⟩) ?_)) (by repeat' (first | exact True.intro | rfl | apply And.intro)) (by repeat' (first | exact True.intro | rfl | apply And.intro)) rfl rfl)); (focus (exact rfl)); (focus (first | exact want_n | exact want_g rfl (by with_reducible rfl))))
  rw [hbs]
  refine wRX ?_
  refine thenA_n ?_
  refine wRX ?_
  refine thenA_n ?_
  refine AW_go (S' := ⟨[(3, .own 5 1 (wholeB b).length .row)], [(5, .own 5 1 ((wholeB b).map byteA))]⟩) (by rw [hwl]; (refine Go2.sub ⟨?_, ?_, ?_⟩ <;> repeat' (first | exact True.intro | rfl | apply And.intro))) ?_; refine AW_go (Go2.thaw (S' := ⟨[(3, .sl (some 5) 1 ((wholeB b).map byteA))], [(5, .tail 5 1 ((wholeB b).map byteA).length)]⟩) 5 rfl (by repeat' (first | exact True.intro | rfl | apply And.intro | (simp; done))) (by repeat' (first | exact True.intro | rfl | apply And.intro | (simp; done))) rfl) ?_
  refine wX ?_
  exact fin ⟨res_sl rfl, trivial⟩
end Go.Proofs.Ytcmdhpinelnclaa

namespace Go.Proofs.Ytcmdhpinelnclaa
open Go Go.RowKit
set_option linter.unusedVariables false
set_option linter.unusedSimpArgs false
set_option maxRecDepth 100000

theorem B8_zero_iff {x : BitVec 8} : (B8 x = 0) ↔ x = 0#8 := by
  rw [B8_def]
  constructor
  · intro h
    apply BitVec.eq_of_toNat_eq
    have : x.toNat = 0 := by omega
    simpa using this
  · intro h; subst h; rfl
theorem place256 {v : Int} : ∃ k : Nat, v % 256 = (k : Int) ∧ k < 256 := ⟨(v % 256).toNat, by have := Int.emod_nonneg v (show (256 : Int) ≠ 0 by omega); omega, by have := Int.emod_lt_of_pos v (show (0 : Int) < 256 by omega); have := Int.emod_nonneg v (show (256 : Int) ≠ 0 by omega); omega⟩
theorem set_turn {b : List (BitVec 8)} {k : Nat} (h : k < b.length) (x : BitVec 8) : b.set k (b[k] ^^^ x) = turn b k x := by
  unfold turn
  rw [List.getD_eq_getElem?_getD, List.getElem?_eq_getElem h]; rfl
theorem short_decode {b : List (BitVec 8)} (h : b.length ≠ 256) : decode b = (Nd.zero, 4) := by unfold decode; rw [if_neg h]
theorem encode_fits {n : Nd} (h : nodeFits n = true) : encode n = (encB n, 0) := by unfold encode; rw [if_pos h]
def bytesC (b : List (BitVec 8)) (x1 x2 x3 : BitVec 8) : List (BitVec 8) := (((put4 (List.replicate 256 0#8) 8 (b.take 248)).set 0 (BitVec.ofNat 8 (x1.toNat % 4))).set 1 (BitVec.ofNat 8 (x2.toNat % 8))).set 2 (BitVec.ofNat 8 (x3.toNat % 4))
theorem bytesC_len (b : List (BitVec 8)) (x1 x2 x3 : BitVec 8) : (bytesC b x1 x2 x3).length = 256 := by
  unfold bytesC
  rw [List.length_set, List.length_set, List.length_set, put4_len _ _ _ (by rw [List.length_take]; simp; omega)]
  simp
end Go.Proofs.Ytcmdhpinelnclaa

namespace Go.Proofs.Ytcmdhpinelnclaa
open Go Go.RowKit
set_option linter.unusedVariables false
set_option linter.unusedSimpArgs false
set_option maxRecDepth 100000

attribute [local irreducible] OpOK AWops AW CondB Go2 AFn thenA inBlockA noGotoA orderOk wantedA
set_option maxRecDepth 100000 in
set_option maxHeartbeats 16000000 in
theorem a_codecBytes (b : List (BitVec 8)) (x1 x2 x3 : BitVec 8) : AFn Try.prog 5 [bytesA b, byteA x1, byteA x2, byteA x3] (boolA true) := by
  by_cases hb : 600 < b.length
  · have hb' : (600 : Int) < (b.length : Nat) := by omega
    refine AFn_intro Try.func5 rfl Try.ntmps5 rfl (by simp) [_] rfl fun E hE => ?_; have hnt : (!true) = false := rfl; have hnf : (!false) = true := rfl
    have d7 := acall Try.func12 (a_awake11) (by decide +kernel) (by decide +kernel)
    refine wX ?_
    exact fin ⟨res_of rfl rfl rfl, trivial⟩
  · have hb' : ¬ (600 : Int) < (b.length : Nat) := by omega
    have cl := bytesC_len b x1 x2 x3
    have c0 := a_cdecode b (by omega)
    have c1 := a_refdecode b (by omega)
    have c2 := a_refsame (decode b).1 (decode b).1 (decode_sm b)
    rw [decide_eq_true rfl] at c2
    have cw := a_whole (bytesC b x1 x2 x3) cl
    have wl := whole_len cl
    have c3 := a_cdecode (wholeB (bytesC b x1 x2 x3)) (by omega)
    have c4 := a_refdecode (wholeB (bytesC b x1 x2 x3)) (by omega)
    have c5 := a_refsame (decode (wholeB (bytesC b x1 x2 x3))).1 (decode (wholeB (bytesC b x1 x2 x3))).1 (decode_sm _)
    rw [decide_eq_true rfl] at c5
    generalize decode b = D1 at *
    obtain ⟨N1, i1⟩ := D1
    generalize decode (wholeB (bytesC b x1 x2 x3)) = D2 at *
    obtain ⟨N2, i2⟩ := D2
    dsimp only at c0 c1 c2 c3 c4 c5
    have e1 : ¬ i1 ≠ i1 := fun h => h rfl
    have e2 : i2 = i2 := rfl
    refine AFn_intro Try.func5 rfl Try.ntmps5 rfl (by simp) [_] rfl fun E hE => ?_; have hnt : (!true) = false := rfl; have hnf : (!false) = true := rfl
    have d0 := acall Try.func14 (c0) (by decide +kernel) (by decide +kernel)
    have d1 := acall Try.func15 (c1) (by decide +kernel) (by decide +kernel)
    have d2 := acall Try.func16 (c2) (by decide +kernel) (by decide +kernel)
    have d3 := acall Try.func14 (c3) (by decide +kernel) (by decide +kernel)
    have d4 := acall Try.func15 (c4) (by decide +kernel) (by decide +kernel)
    have d5 := acall Try.func16 (c5) (by decide +kernel) (by decide +kernel)
    have d6 := acall Try.func17 (cw) (by decide +kernel) (by decide +kernel)
    have d7 := acall Try.func12 (a_awake11) (by decide +kernel) (by decide +kernel)
    refine wX ?_
    (apply Wb; (focus (exact ob_copyM rfl rfl rfl rfl rfl (by simp) (by decide) (by decide))); (focus (first | exact want_n | exact want_g rfl (by with_reducible rfl))))
    have hq1 : 256 = (put4 (List.replicate 256 0#8) 8 (List.take (256 - 8) b)).length := by rw [put4_len _ _ _ (by rw [List.length_take]; simp; omega)]; simp
    have hq2 : (put4 (List.replicate 256 0#8) 8 (List.take 248 b)).length = 256 := hq1.symm
    refine wRV ?_
    refine thenA_n ?_
    refine wRV ?_
    (apply Ws; (focus (refine ob_st rfl rfl rfl (by first | exact hq1 | (simp only [List.length_set]; exact hq1)) (Nat.lt_of_lt_of_le (m := 256) (by decide) (Nat.le_of_eq (by first | exact hq1 | (simp only [List.length_set]; exact hq1)))) rfl (fun _ => rfl) rfl rfl)); (focus (first | exact want_n | exact want_g rfl (by with_reducible rfl))))
    refine wRV ?_
    (apply Ws; (focus (refine ob_st rfl rfl rfl (by first | exact hq1 | (simp only [List.length_set]; exact hq1)) (Nat.lt_of_lt_of_le (m := 256) (by decide) (Nat.le_of_eq (by first | exact hq1 | (simp only [List.length_set]; exact hq1)))) rfl (fun _ => rfl) rfl rfl)); (focus (first | exact want_n | exact want_g rfl (by with_reducible rfl))))
    refine wRV ?_
    (apply Ws; (focus (refine ob_st rfl rfl rfl (by first | exact hq1 | (simp only [List.length_set]; exact hq1)) (Nat.lt_of_lt_of_le (m := 256) (by decide) (Nat.le_of_eq (by first | exact hq1 | (simp only [List.length_set]; exact hq1)))) rfl (fun _ => rfl) rfl rfl)); (focus (first | exact want_n | exact want_g rfl (by with_reducible rfl))))
    refine wRV ?_
    refine thenA_n ?_
    refine AW_go (S' := ⟨[(9, .ptr 9 0 []), (11, .ptr 11 0 []), (13, .own 37 1 (bytesC b x1 x2 x3).length .row)], [(9, .var (Nd.av N1)), (11, .var (Nd.av N1)), (37, .own 5 1 ((bytesC b x1 x2 x3).map byteA))]⟩) (by rw [cl]; (refine Go2.sub ⟨?_, ?_, ?_⟩ <;> repeat' (first | exact True.intro | rfl | apply And.intro))) ?_
    refine AW_go (Go2.thaw (S' := ⟨[(9, .ptr 9 0 []), (11, .ptr 11 0 []), (13, .sl (some 37) 1 ((bytesC b x1 x2 x3).map byteA))], [(9, .var (Nd.av N1)), (11, .var (Nd.av N1)), (37, .tail 5 1 ((bytesC b x1 x2 x3).map byteA).length)]⟩) 37 rfl (by repeat' (first | exact True.intro | rfl | apply And.intro | (simp; done))) (by repeat' (first | exact True.intro | rfl | apply And.intro | (simp; done))) rfl) ?_
    refine wV ?_
    exact fin ⟨res_of rfl rfl rfl, trivial⟩
theorem be_ofInt (n : Int) (h : (Lit.int .u8 n).wf = true) : be (BitVec.ofInt 8 n) = #[.int .u8 n] := by
  have : 0 ≤ n ∧ n ≤ 255 := by simp [Lit.wf, IntKind.min, IntKind.max, IntKind.signed, IntKind.bits] at h; omega
  unfold be
  rw [B8_ofInt n (by omega) (by omega)]
theorem codecBytes_walk (v0 : Value) (l0 : List (BitVec 8)) (x1 : BitVec 8) (x2 : BitVec 8) (x3 : BitVec 8) (w : World) (s0 : Sl be 1 w v0 l0) :
    Calls Try.prog 5 #[v0, .int .u8 (B8 x1), .int .u8 (B8 x2), .int .u8 (B8 x3)] w (Is w (.bool true)) :=
  law_of (a_codecBytes l0 x1 x2 x3) (rdp_cons rfl (bytes_in s0) (rdp_cons rfl (Rdv_v.2 ⟨rfl, rfl⟩) (rdp_cons rfl (Rdv_v.2 ⟨rfl, rfl⟩) (rdp_cons rfl (Rdv_v.2 ⟨rfl, rfl⟩) rdp_nil'))))
end Go.Proofs.Ytcmdhpinelnclaa

namespace Go.Proofs.Ytcmdhpinelnclaa
open Go Go.RowKit
set_option linter.unusedVariables false
set_option linter.unusedSimpArgs false
set_option maxRecDepth 100000

attribute [local irreducible] OpOK AWops AW CondB Go2 AFn thenA inBlockA noGotoA orderOk wantedA
set_option maxRecDepth 100000 in
set_option maxHeartbeats 16000000 in
theorem a_codecTurned (e p : List Int) (v : Int) (l : List Int) (inner : Bool) (k0 : Int) (x : BitVec 8) (he : ∀ n ∈ e, -9223372036854775808 ≤ n ∧ n ≤ 9223372036854775807) (hl : p.length ≤ 17592186044400) (hb : ∀ n ∈ p, -9223372036854775808 ≤ n ∧ n ≤ 9223372036854775807) (hv : -9223372036854775808 ≤ v ∧ v ≤ 9223372036854775807) (hlb : ∀ n ∈ l, -9223372036854775808 ≤ n ∧ n ≤ 9223372036854775807) (hk0 : -9223372036854775808 ≤ k0 ∧ k0 ≤ 9223372036854775807) :
    AFn Try.prog 6 [intsA e, intsA p, intA v, intsA l, boolA inner, intA k0, byteA x] (boolA true) := by
  have c0 := a_lleaf e he
  have c1 := a_inner p v l hl hb hv hlb
  have hL := leafN_fits e
  have hI := innerN_fits p v l
  have cp := a_lplace k0 256 (by omega) (by omega) hk0
  obtain ⟨k, ek, hk⟩ := place256 (v := k0)
  rw [ek] at cp
  generalize leafN e = L at *
  generalize innerN p v l = I at *
  cases inner
  · have ce := a_cencode L (fits_sm hL)
    rw [encode_fits hL] at ce
    have hbl := encB_len hL
    have cd1 := a_cdecode (turn (encB L) k x) (by rw [turn_len]; omega)
    have cd2 := a_cdecode ((encB L).take k) (by rw [List.length_take]; omega)
    rw [short_decode (by rw [List.length_take]; omega)] at cd2
    have cd3 := a_cdecode (encB L ++ [x]) (by rw [List.length_append, List.length_singleton]; omega)
    rw [short_decode (by rw [List.length_append, List.length_singleton]; omega)] at cd3
    by_cases hx : x = 0#8
    · have hd1 : decode (turn (encB L) k x) = (L, 0) := by rw [hx, turn_zero (by omega), decode_enc hL]
      rw [hd1] at cd1
      clear hd1
      have hx0 : B8 x = 0 := B8_zero_iff.2 hx
      have cs := a_refsame L L (fits_sm hL)
      rw [decide_eq_true rfl] at cs
      dsimp only at ce cd1 cd2 cd3
      generalize encB L = bb at *
      refine AFn_intro Try.func6 rfl Try.ntmps6 rfl (by simp) [_] rfl fun E hE => ?_; have hnt : (!true) = false := rfl; have hnf : (!false) = true := rfl
      have d0 := acall Try.func10 (c0) (by decide +kernel) (by decide +kernel)
      have d1 := acall Try.func11 (c1) (by decide +kernel) (by decide +kernel)
      have d2 := acall Try.func18 (ce) (by decide +kernel) (by decide +kernel)
      have d3 := acall Try.func14 (cd1) (by decide +kernel) (by decide +kernel)
      have d4 := acall Try.func14 (cd2) (by decide +kernel) (by decide +kernel)
      have d5 := acall Try.func14 (cd3) (by decide +kernel) (by decide +kernel)
      have d6 := acall Try.func16 (cs) (by decide +kernel) (by decide +kernel)
      have d7 := acall Try.func12 (a_awake11) (by decide +kernel) (by decide +kernel)
      refine wX ?_
      (apply Wv; (focus (apply o_call Try.func19 (cp) rfl (by decide +kernel) rfl rfl; (any_goals (intro _; (repeat (first | exact wkl0 | refine wkd rfl ?_ | refine wkt ?_ | refine wkn ?_)); done)); (any_goals rfl))); (focus (first | exact want_n | exact want_g rfl (by with_reducible rfl))))
      refine wRX ?_
      refine thenA_n ?_
      refine wRX ?_
      refine thenA_n ?_
      rw [set_turn]
      refine AW_go (S' := ⟨[(6, byteA x), (15, .ptr 15 0 []), (16, bytesA bb), (18, .own 45 1 (turn bb k x).length .row), (19, intA (k : Nat))], [(15, .var (Nd.av L)), (45, .own 5 1 ((turn bb k x).map byteA))]⟩) (by rw [turn_len]; (refine Go2.sub ⟨?_, ?_, ?_⟩ <;> repeat' (first | exact True.intro | rfl | apply And.intro))) ?_
      refine AW_go (Go2.thaw (S' := ⟨[(6, byteA x), (15, .ptr 15 0 []), (16, bytesA bb), (18, .sl (some 45) 1 ((turn bb k x).map byteA)), (19, intA (k : Nat))], [(15, .var (Nd.av L)), (45, .tail 5 1 ((turn bb k x).map byteA).length)]⟩) 45 rfl (by repeat' (first | exact True.intro | rfl | apply And.intro | (simp; done))) (by repeat' (first | exact True.intro | rfl | apply And.intro | (simp; done))) rfl) ?_
      refine wV ?_
      exact fin ⟨res_of rfl rfl rfl, trivial⟩
    · have hd1 := decode_turned hL hk hx
      rw [hd1] at cd1
      clear hd1
      have hx0 : ¬ B8 x = 0 := fun h => hx (B8_zero_iff.1 h)
      have cs := AFn_weak (a_refsame Nd.zero Nd.zero zero_sm) (xs := [Nd.zero.av, nodeA false nilA nilA nilA nilA]) (fun H => .cons (Wk.data rfl) (.cons (Wk.agg (.cons (Wk.data rfl) (.cons Wk.nil (.cons Wk.nil (.cons Wk.nil (.cons Wk.nil .nil)))))) .nil))
      rw [decide_eq_true rfl] at cs
      dsimp only at ce cd1 cd2 cd3
      generalize encB L = bb at *
      refine AFn_intro Try.func6 rfl Try.ntmps6 rfl (by simp) [_] rfl fun E hE => ?_; have hnt : (!true) = false := rfl; have hnf : (!false) = true := rfl
      have d0 := acall Try.func10 (c0) (by decide +kernel) (by decide +kernel)
      have d1 := acall Try.func11 (c1) (by decide +kernel) (by decide +kernel)
      have d2 := acall Try.func18 (ce) (by decide +kernel) (by decide +kernel)
      have d3 := acall Try.func14 (cd1) (by decide +kernel) (by decide +kernel)
      have d4 := acall Try.func14 (cd2) (by decide +kernel) (by decide +kernel)
      have d5 := acall Try.func14 (cd3) (by decide +kernel) (by decide +kernel)
      have d6 := acall Try.func16 (cs) (by decide +kernel) (by decide +kernel)
      have d7 := acall Try.func12 (a_awake11) (by decide +kernel) (by decide +kernel)
      refine wX ?_
      (apply Wv; (focus (apply o_call Try.func19 (cp) rfl (by decide +kernel) rfl rfl; (any_goals (intro _; (repeat (first | exact wkl0 | refine wkd rfl ?_ | refine wkt ?_ | refine wkn ?_)); done)); (any_goals rfl))); (focus (first | exact want_n | exact want_g rfl (by with_reducible rfl))))
      refine wRX ?_
      refine thenA_n ?_
      refine wRX ?_
      refine thenA_n ?_
      rw [set_turn]
      refine AW_go (S' := ⟨[(6, byteA x), (15, .ptr 15 0 []), (16, bytesA bb), (18, .own 45 1 (turn bb k x).length .row), (19, intA (k : Nat))], [(15, .var (Nd.av L)), (45, .own 5 1 ((turn bb k x).map byteA))]⟩) (by rw [turn_len]; (refine Go2.sub ⟨?_, ?_, ?_⟩ <;> repeat' (first | exact True.intro | rfl | apply And.intro))) ?_
      refine AW_go (Go2.thaw (S' := ⟨[(6, byteA x), (15, .ptr 15 0 []), (16, bytesA bb), (18, .sl (some 45) 1 ((turn bb k x).map byteA)), (19, intA (k : Nat))], [(15, .var (Nd.av L)), (45, .tail 5 1 ((turn bb k x).map byteA).length)]⟩) 45 rfl (by repeat' (first | exact True.intro | rfl | apply And.intro | (simp; done))) (by repeat' (first | exact True.intro | rfl | apply And.intro | (simp; done))) rfl) ?_
      refine wV ?_
      exact fin ⟨res_of rfl rfl rfl, trivial⟩
  · have ce := a_cencode I (fits_sm hI)
    rw [encode_fits hI] at ce
    have hbl := encB_len hI
    have cd1 := a_cdecode (turn (encB I) k x) (by rw [turn_len]; omega)
    have cd2 := a_cdecode ((encB I).take k) (by rw [List.length_take]; omega)
    rw [short_decode (by rw [List.length_take]; omega)] at cd2
    have cd3 := a_cdecode (encB I ++ [x]) (by rw [List.length_append, List.length_singleton]; omega)
    rw [short_decode (by rw [List.length_append, List.length_singleton]; omega)] at cd3
    by_cases hx : x = 0#8
    · have hd1 : decode (turn (encB I) k x) = (I, 0) := by rw [hx, turn_zero (by omega), decode_enc hI]
      rw [hd1] at cd1
      clear hd1
      have hx0 : B8 x = 0 := B8_zero_iff.2 hx
      have cs := a_refsame I I (fits_sm hI)
      rw [decide_eq_true rfl] at cs
      dsimp only at ce cd1 cd2 cd3
      generalize encB I = bb at *
      refine AFn_intro Try.func6 rfl Try.ntmps6 rfl (by simp) [_] rfl fun E hE => ?_; have hnt : (!true) = false := rfl; have hnf : (!false) = true := rfl
      have d0 := acall Try.func10 (c0) (by decide +kernel) (by decide +kernel)
      have d1 := acall Try.func11 (c1) (by decide +kernel) (by decide +kernel)
      have d2 := acall Try.func18 (ce) (by decide +kernel) (by decide +kernel)
      have d3 := acall Try.func14 (cd1) (by decide +kernel) (by decide +kernel)
      have d4 := acall Try.func14 (cd2) (by decide +kernel) (by decide +kernel)
      have d5 := acall Try.func14 (cd3) (by decide +kernel) (by decide +kernel)
      have d6 := acall Try.func16 (cs) (by decide +kernel) (by decide +kernel)
      have d7 := acall Try.func12 (a_awake11) (by decide +kernel) (by decide +kernel)
      refine wX ?_
      (apply Wv; (focus (apply o_call Try.func19 (cp) rfl (by decide +kernel) rfl rfl; (any_goals (intro _; (repeat (first | exact wkl0 | refine wkd rfl ?_ | refine wkt ?_ | refine wkn ?_)); done)); (any_goals rfl))); (focus (first | exact want_n | exact want_g rfl (by with_reducible rfl))))
      refine wRX ?_
      refine thenA_n ?_
      refine wRX ?_
      refine thenA_n ?_
      rw [set_turn]
      refine AW_go (S' := ⟨[(6, byteA x), (15, .ptr 15 0 []), (16, bytesA bb), (18, .own 45 1 (turn bb k x).length .row), (19, intA (k : Nat))], [(15, .var (Nd.av I)), (45, .own 5 1 ((turn bb k x).map byteA))]⟩) (by rw [turn_len]; (refine Go2.sub ⟨?_, ?_, ?_⟩ <;> repeat' (first | exact True.intro | rfl | apply And.intro))) ?_
      refine AW_go (Go2.thaw (S' := ⟨[(6, byteA x), (15, .ptr 15 0 []), (16, bytesA bb), (18, .sl (some 45) 1 ((turn bb k x).map byteA)), (19, intA (k : Nat))], [(15, .var (Nd.av I)), (45, .tail 5 1 ((turn bb k x).map byteA).length)]⟩) 45 rfl (by repeat' (first | exact True.intro | rfl | apply And.intro | (simp; done))) (by repeat' (first | exact True.intro | rfl | apply And.intro | (simp; done))) rfl) ?_
      refine wV ?_
      exact fin ⟨res_of rfl rfl rfl, trivial⟩
    · have hd1 := decode_turned hI hk hx
      rw [hd1] at cd1
      clear hd1
      have hx0 : ¬ B8 x = 0 := fun h => hx (B8_zero_iff.1 h)
      have cs := AFn_weak (a_refsame Nd.zero Nd.zero zero_sm) (xs := [Nd.zero.av, nodeA false nilA nilA nilA nilA]) (fun H => .cons (Wk.data rfl) (.cons (Wk.agg (.cons (Wk.data rfl) (.cons Wk.nil (.cons Wk.nil (.cons Wk.nil (.cons Wk.nil .nil)))))) .nil))
      rw [decide_eq_true rfl] at cs
      dsimp only at ce cd1 cd2 cd3
      generalize encB I = bb at *
      refine AFn_intro Try.func6 rfl Try.ntmps6 rfl (by simp) [_] rfl fun E hE => ?_; have hnt : (!true) = false := rfl; have hnf : (!false) = true := rfl
      have d0 := acall Try.func10 (c0) (by decide +kernel) (by decide +kernel)
      have d1 := acall Try.func11 (c1) (by decide +kernel) (by decide +kernel)
      have d2 := acall Try.func18 (ce) (by decide +kernel) (by decide +kernel)
      have d3 := acall Try.func14 (cd1) (by decide +kernel) (by decide +kernel)
      have d4 := acall Try.func14 (cd2) (by decide +kernel) (by decide +kernel)
      have d5 := acall Try.func14 (cd3) (by decide +kernel) (by decide +kernel)
      have d6 := acall Try.func16 (cs) (by decide +kernel) (by decide +kernel)
      have d7 := acall Try.func12 (a_awake11) (by decide +kernel) (by decide +kernel)
      refine wX ?_
      (apply Wv; (focus (apply o_call Try.func19 (cp) rfl (by decide +kernel) rfl rfl; (any_goals (intro _; (repeat (first | exact wkl0 | refine wkd rfl ?_ | refine wkt ?_ | refine wkn ?_)); done)); (any_goals rfl))); (focus (first | exact want_n | exact want_g rfl (by with_reducible rfl))))
      refine wRX ?_
      refine thenA_n ?_
      refine wRX ?_
      refine thenA_n ?_
      rw [set_turn]
      refine AW_go (S' := ⟨[(6, byteA x), (15, .ptr 15 0 []), (16, bytesA bb), (18, .own 45 1 (turn bb k x).length .row), (19, intA (k : Nat))], [(15, .var (Nd.av I)), (45, .own 5 1 ((turn bb k x).map byteA))]⟩) (by rw [turn_len]; (refine Go2.sub ⟨?_, ?_, ?_⟩ <;> repeat' (first | exact True.intro | rfl | apply And.intro))) ?_
      refine AW_go (Go2.thaw (S' := ⟨[(6, byteA x), (15, .ptr 15 0 []), (16, bytesA bb), (18, .sl (some 45) 1 ((turn bb k x).map byteA)), (19, intA (k : Nat))], [(15, .var (Nd.av I)), (45, .tail 5 1 ((turn bb k x).map byteA).length)]⟩) 45 rfl (by repeat' (first | exact True.intro | rfl | apply And.intro | (simp; done))) (by repeat' (first | exact True.intro | rfl | apply And.intro | (simp; done))) rfl) ?_
      refine wV ?_
      exact fin ⟨res_of rfl rfl rfl, trivial⟩
theorem codecTurned_walk (v0 : Value) (l0 : List (Int)) (v1 : Value) (l1 : List (Int)) (n2 : Int) (v3 : Value) (l3 : List (Int)) (c4 : Bool) (n5 : Int) (x6 : BitVec 8) (w : World) (s0 : Sl ie 1 w v0 l0) (g0 : ∀ n ∈ l0, -9223372036854775808 ≤ n ∧ n ≤ 9223372036854775807) (z0 : l0.length ≤ 17592186043904) (s1 : Sl ie 1 w v1 l1) (g1 : ∀ n ∈ l1, -9223372036854775808 ≤ n ∧ n ≤ 9223372036854775807) (z1 : l1.length ≤ 17592186043904) (b2 : -9223372036854775808 ≤ n2 ∧ n2 ≤ 9223372036854775807) (s3 : Sl ie 1 w v3 l3) (g3 : ∀ n ∈ l3, -9223372036854775808 ≤ n ∧ n ≤ 9223372036854775807) (z3 : l3.length ≤ 17592186043904) (b5 : -9223372036854775808 ≤ n5 ∧ n5 ≤ 9223372036854775807) :
    Calls Try.prog 6 #[v0, v1, .int .i64 n2, v3, .bool c4, .int .i64 n5, .int .u8 (B8 x6)] w (Is w (.bool true)) :=
  law_of (a_codecTurned l0 l1 n2 l3 c4 n5 x6 g0 (by omega) g1 b2 g3 b5) (rdp_cons rfl (ints_in s0) (rdp_cons rfl (ints_in s1) (rdp_cons rfl int_in (rdp_cons rfl (ints_in s3) (rdp_cons rfl (Rdv_v.2 ⟨rfl, rfl⟩) (rdp_cons rfl int_in (rdp_cons rfl (Rdv_v.2 ⟨rfl, rfl⟩) rdp_nil')))))))
end Go.Proofs.Ytcmdhpinelnclaa

namespace Go.Proofs.Ytcmdhpinelnclaa
open Go Go.RowKit
set_option linter.unusedVariables false
set_option linter.unusedSimpArgs false
set_option maxRecDepth 100000

attribute [local irreducible] OpOK AWops AW CondB Go2 AFn thenA inBlockA noGotoA orderOk wantedA
set_option maxRecDepth 100000 in
set_option maxHeartbeats 16000000 in
theorem a_codecOnce (e p : List Int) (v : Int) (l : List Int) (inner : Bool) (k0 : Int) (x : BitVec 8) (he : ∀ n ∈ e, -9223372036854775808 ≤ n ∧ n ≤ 9223372036854775807) (hl : p.length ≤ 17592186044400) (hb : ∀ n ∈ p, -9223372036854775808 ≤ n ∧ n ≤ 9223372036854775807) (hv : -9223372036854775808 ≤ v ∧ v ≤ 9223372036854775807) (hlb : ∀ n ∈ l, -9223372036854775808 ≤ n ∧ n ≤ 9223372036854775807) (hk0 : -9223372036854775808 ≤ k0 ∧ k0 ≤ 9223372036854775807) :
    AFn Try.prog 7 [intsA e, intsA p, intA v, intsA l, boolA inner, intA k0, byteA x] (boolA true) := by
  have c0 := a_lleaf e he
  have c1 := a_inner p v l hl hb hv hlb
  have hL := leafN_fits e
  have hI := innerN_fits p v l
  have cp := a_lplace k0 256 (by omega) (by omega) hk0
  obtain ⟨k, ek, hk⟩ := place256 (v := k0)
  rw [ek] at cp
  generalize leafN e = L at *
  generalize innerN p v l = I at *
  cases inner
  · have ce := a_refencode L (fits_sm hL)
    rw [encode_fits hL] at ce
    have hbl := encB_len hL
    by_cases hx : x = 0#8
    · have hx0 : B8 x = 0 := B8_zero_iff.2 hx
      dsimp only at ce
      generalize encB L = bb at *
      refine AFn_intro Try.func7 rfl Try.ntmps7 rfl (by simp) [_] rfl fun E hE => ?_; have hnt : (!true) = false := rfl; have hnf : (!false) = true := rfl
      have d0 := acall Try.func10 (c0) (by decide +kernel) (by decide +kernel)
      have d1 := acall Try.func11 (c1) (by decide +kernel) (by decide +kernel)
      have d2 := acall Try.func20 (ce) (by decide +kernel) (by decide +kernel)
      have d7 := acall Try.func12 (a_awake11) (by decide +kernel) (by decide +kernel)
      refine wX ?_
      (apply Wv; (focus (apply o_call Try.func19 (cp) rfl (by decide +kernel) rfl rfl; (any_goals (intro _; (repeat (first | exact wkl0 | refine wkd rfl ?_ | refine wkt ?_ | refine wkn ?_)); done)); (any_goals rfl))); (focus (first | exact want_n | exact want_g rfl (by with_reducible rfl))))
      refine wX ?_
      exact fin ⟨res_of rfl rfl rfl, trivial⟩
    have hx0 : ¬ B8 x = 0 := fun h => hx (B8_zero_iff.1 h)
    by_cases hin : 4 ≤ k ∧ k < 8
    · dsimp only at ce
      generalize encB L = bb at *
      have g1 : (4 : Int) ≤ (k : Nat) := by omega
      have g2 : ((k : Nat) : Int) < 8 := by omega
      refine AFn_intro Try.func7 rfl Try.ntmps7 rfl (by simp) [_] rfl fun E hE => ?_; have hnt : (!true) = false := rfl; have hnf : (!false) = true := rfl
      have d0 := acall Try.func10 (c0) (by decide +kernel) (by decide +kernel)
      have d1 := acall Try.func11 (c1) (by decide +kernel) (by decide +kernel)
      have d2 := acall Try.func20 (ce) (by decide +kernel) (by decide +kernel)
      have d7 := acall Try.func12 (a_awake11) (by decide +kernel) (by decide +kernel)
      refine wX ?_
      (apply Wv; (focus (apply o_call Try.func19 (cp) rfl (by decide +kernel) rfl rfl; (any_goals (intro _; (repeat (first | exact wkl0 | refine wkd rfl ?_ | refine wkt ?_ | refine wkn ?_)); done)); (any_goals rfl))); (focus (first | exact want_n | exact want_g rfl (by with_reducible rfl))))
      refine wX ?_
      exact fin ⟨res_of rfl rfl rfl, trivial⟩
    have ho : k < 4 ∨ 8 ≤ k := by omega
    have htl : (turn (encB L) k x).length = 256 := by rw [turn_len]; exact hbl
    have cw := a_whole (turn (encB L) k x) htl
    have cd := a_cdecode (wholeB (turn (encB L) k x)) (by rw [whole_len htl]; omega)
    rcases decode_whole htl with hd | ⟨M, hd, hM, hMe⟩
    · rw [hd] at cd
      have cs := AFn_weak (a_refsame Nd.zero Nd.zero zero_sm) (xs := [Nd.zero.av, nodeA false nilA nilA nilA nilA]) (fun H => .cons (Wk.data rfl) (.cons (Wk.agg (.cons (Wk.data rfl) (.cons Wk.nil (.cons Wk.nil (.cons Wk.nil (.cons Wk.nil .nil)))))) .nil))
      rw [decide_eq_true rfl] at cs
      dsimp only at ce cd
      clear hd htl
      generalize encB L = bb at *
      by_cases hlo : k < 4
      · have g1 : ¬ (4 : Int) ≤ (k : Nat) := by omega
        refine AFn_intro Try.func7 rfl Try.ntmps7 rfl (by simp) [_] rfl fun E hE => ?_; have hnt : (!true) = false := rfl; have hnf : (!false) = true := rfl
        have d0 := acall Try.func10 (c0) (by decide +kernel) (by decide +kernel)
        have d1 := acall Try.func11 (c1) (by decide +kernel) (by decide +kernel)
        have d2 := acall Try.func20 (ce) (by decide +kernel) (by decide +kernel)
        have d7 := acall Try.func12 (a_awake11) (by decide +kernel) (by decide +kernel)
        have d3 := acall Try.func17 (cw) (by decide +kernel) (by decide +kernel)
        have d4 := acall Try.func14 (cd) (by decide +kernel) (by decide +kernel)
        have d5 := acall Try.func16 (cs) (by decide +kernel) (by decide +kernel)
        refine wX ?_
        (apply Wv; (focus (apply o_call Try.func19 (cp) rfl (by decide +kernel) rfl rfl; (any_goals (intro _; (repeat (first | exact wkl0 | refine wkd rfl ?_ | refine wkt ?_ | refine wkn ?_)); done)); (any_goals rfl))); (focus (first | exact want_n | exact want_g rfl (by with_reducible rfl))))
        refine wRX ?_
        refine thenA_n ?_
        refine wRX ?_
        refine thenA_n ?_
        refine wRX ?_
        refine thenA_n ?_
        refine wRX ?_
        refine thenA_n ?_
        refine wRX ?_
        refine thenA_n ?_
        rw [set_turn]
        refine AW_go (S' := ⟨[(15, .ptr 15 0 []), (19, .own 53 1 (turn bb k x).length .row)], [(15, .var (Nd.av L)), (53, .own 5 1 ((turn bb k x).map byteA))]⟩) (by rw [turn_len]; (refine Go2.sub ⟨?_, ?_, ?_⟩ <;> repeat' (first | exact True.intro | rfl | apply And.intro))) ?_
        refine AW_go (Go2.thaw (S' := ⟨[(15, .ptr 15 0 []), (19, .sl (some 53) 1 ((turn bb k x).map byteA))], [(15, .var (Nd.av L)), (53, .tail 5 1 ((turn bb k x).map byteA).length)]⟩) 53 rfl (by repeat' (first | exact True.intro | rfl | apply And.intro | (simp; done))) (by repeat' (first | exact True.intro | rfl | apply And.intro | (simp; done))) rfl) ?_
        refine wV ?_
        exact fin ⟨res_of rfl rfl rfl, trivial⟩
      · have g1 : (4 : Int) ≤ (k : Nat) := by omega
        have g2 : ¬ ((k : Nat) : Int) < 8 := by omega
        refine AFn_intro Try.func7 rfl Try.ntmps7 rfl (by simp) [_] rfl fun E hE => ?_; have hnt : (!true) = false := rfl; have hnf : (!false) = true := rfl
        have d0 := acall Try.func10 (c0) (by decide +kernel) (by decide +kernel)
        have d1 := acall Try.func11 (c1) (by decide +kernel) (by decide +kernel)
        have d2 := acall Try.func20 (ce) (by decide +kernel) (by decide +kernel)
        have d7 := acall Try.func12 (a_awake11) (by decide +kernel) (by decide +kernel)
        have d3 := acall Try.func17 (cw) (by decide +kernel) (by decide +kernel)
        have d4 := acall Try.func14 (cd) (by decide +kernel) (by decide +kernel)
        have d5 := acall Try.func16 (cs) (by decide +kernel) (by decide +kernel)
        refine wX ?_
        (apply Wv; (focus (apply o_call Try.func19 (cp) rfl (by decide +kernel) rfl rfl; (any_goals (intro _; (repeat (first | exact wkl0 | refine wkd rfl ?_ | refine wkt ?_ | refine wkn ?_)); done)); (any_goals rfl))); (focus (first | exact want_n | exact want_g rfl (by with_reducible rfl))))
        refine wRX ?_
        refine thenA_n ?_
        refine wRX ?_
        refine thenA_n ?_
        refine wRX ?_
        refine thenA_n ?_
        refine wRX ?_
        refine thenA_n ?_
        refine wRX ?_
        refine thenA_n ?_
        rw [set_turn]
        refine AW_go (S' := ⟨[(15, .ptr 15 0 []), (19, .own 53 1 (turn bb k x).length .row)], [(15, .var (Nd.av L)), (53, .own 5 1 ((turn bb k x).map byteA))]⟩) (by rw [turn_len]; (refine Go2.sub ⟨?_, ?_, ?_⟩ <;> repeat' (first | exact True.intro | rfl | apply And.intro))) ?_
        refine AW_go (Go2.thaw (S' := ⟨[(15, .ptr 15 0 []), (19, .sl (some 53) 1 ((turn bb k x).map byteA))], [(15, .var (Nd.av L)), (53, .tail 5 1 ((turn bb k x).map byteA).length)]⟩) 53 rfl (by repeat' (first | exact True.intro | rfl | apply And.intro | (simp; done))) (by repeat' (first | exact True.intro | rfl | apply And.intro | (simp; done))) rfl) ?_
        refine wV ?_
        exact fin ⟨res_of rfl rfl rfl, trivial⟩
    · rw [hd] at cd
      have hne := turned_ne hL hM hk ho hx hMe
      have cs := a_refsame M L (fits_sm hM)
      rw [decide_eq_false hne] at cs
      have cf := a_ref09fits M (fits_sm hM)
      rw [hM] at cf
      have ce2 := a_cencode M (fits_sm hM)
      rw [encode_fits hM, hMe] at ce2
      dsimp only at ce cd ce2
      clear hd htl hMe
      generalize encB L = bb at *
      have hww : decide (wholeB (turn bb k x) = wholeB (turn bb k x)) = true := decide_eq_true rfl
      by_cases hlo : k < 4
      · have g1 : ¬ (4 : Int) ≤ (k : Nat) := by omega
        refine AFn_intro Try.func7 rfl Try.ntmps7 rfl (by simp) [_] rfl fun E hE => ?_; have hnt : (!true) = false := rfl; have hnf : (!false) = true := rfl
        have d0 := acall Try.func10 (c0) (by decide +kernel) (by decide +kernel)
        have d1 := acall Try.func11 (c1) (by decide +kernel) (by decide +kernel)
        have d2 := acall Try.func20 (ce) (by decide +kernel) (by decide +kernel)
        have d7 := acall Try.func12 (a_awake11) (by decide +kernel) (by decide +kernel)
        have d3 := acall Try.func17 (cw) (by decide +kernel) (by decide +kernel)
        have d4 := acall Try.func14 (cd) (by decide +kernel) (by decide +kernel)
        have d5 := acall Try.func16 (cs) (by decide +kernel) (by decide +kernel)
        have d6 := acall Try.func21 (cf) (by decide +kernel) (by decide +kernel)
        have d8 := acall Try.func18 (ce2) (by decide +kernel) (by decide +kernel)
        refine wX ?_
        (apply Wv; (focus (apply o_call Try.func19 (cp) rfl (by decide +kernel) rfl rfl; (any_goals (intro _; (repeat (first | exact wkl0 | refine wkd rfl ?_ | refine wkt ?_ | refine wkn ?_)); done)); (any_goals rfl))); (focus (first | exact want_n | exact want_g rfl (by with_reducible rfl))))
        refine wRX ?_
        refine thenA_n ?_
        refine wRX ?_
        refine thenA_n ?_
        refine wRX ?_
        refine thenA_n ?_
        refine wRX ?_
        refine thenA_n ?_
        refine wRX ?_
        refine thenA_n ?_
        rw [set_turn]
        refine AW_go (S' := ⟨[(15, .ptr 15 0 []), (19, .own 53 1 (turn bb k x).length .row)], [(15, .var (Nd.av L)), (53, .own 5 1 ((turn bb k x).map byteA))]⟩) (by rw [turn_len]; (refine Go2.sub ⟨?_, ?_, ?_⟩ <;> repeat' (first | exact True.intro | rfl | apply And.intro))) ?_
        refine AW_go (Go2.thaw (S' := ⟨[(15, .ptr 15 0 []), (19, .sl (some 53) 1 ((turn bb k x).map byteA))], [(15, .var (Nd.av L)), (53, .tail 5 1 ((turn bb k x).map byteA).length)]⟩) 53 rfl (by repeat' (first | exact True.intro | rfl | apply And.intro | (simp; done))) (by repeat' (first | exact True.intro | rfl | apply And.intro | (simp; done))) rfl) ?_
        refine wV ?_
        exact fin ⟨res_of rfl rfl rfl, trivial⟩
      · have g1 : (4 : Int) ≤ (k : Nat) := by omega
        have g2 : ¬ ((k : Nat) : Int) < 8 := by omega
        refine AFn_intro Try.func7 rfl Try.ntmps7 rfl (by simp) [_] rfl fun E hE => ?_; have hnt : (!true) = false := rfl; have hnf : (!false) = true := rfl
        have d0 := acall Try.func10 (c0) (by decide +kernel) (by decide +kernel)
        have d1 := acall Try.func11 (c1) (by decide +kernel) (by decide +kernel)
        have d2 := acall Try.func20 (ce) (by decide +kernel) (by decide +kernel)
        have d7 := acall Try.func12 (a_awake11) (by decide +kernel) (by decide +kernel)
        have d3 := acall Try.func17 (cw) (by decide +kernel) (by decide +kernel)
        have d4 := acall Try.func14 (cd) (by decide +kernel) (by decide +kernel)
        have d5 := acall Try.func16 (cs) (by decide +kernel) (by decide +kernel)
        have d6 := acall Try.func21 (cf) (by decide +kernel) (by decide +kernel)
        have d8 := acall Try.func18 (ce2) (by decide +kernel) (by decide +kernel)
        refine wX ?_
        (apply Wv; (focus (apply o_call Try.func19 (cp) rfl (by decide +kernel) rfl rfl; (any_goals (intro _; (repeat (first | exact wkl0 | refine wkd rfl ?_ | refine wkt ?_ | refine wkn ?_)); done)); (any_goals rfl))); (focus (first | exact want_n | exact want_g rfl (by with_reducible rfl))))
        refine wRX ?_
        refine thenA_n ?_
        refine wRX ?_
        refine thenA_n ?_
        refine wRX ?_
        refine thenA_n ?_
        refine wRX ?_
        refine thenA_n ?_
        refine wRX ?_
        refine thenA_n ?_
        rw [set_turn]
        refine AW_go (S' := ⟨[(15, .ptr 15 0 []), (19, .own 53 1 (turn bb k x).length .row)], [(15, .var (Nd.av L)), (53, .own 5 1 ((turn bb k x).map byteA))]⟩) (by rw [turn_len]; (refine Go2.sub ⟨?_, ?_, ?_⟩ <;> repeat' (first | exact True.intro | rfl | apply And.intro))) ?_
        refine AW_go (Go2.thaw (S' := ⟨[(15, .ptr 15 0 []), (19, .sl (some 53) 1 ((turn bb k x).map byteA))], [(15, .var (Nd.av L)), (53, .tail 5 1 ((turn bb k x).map byteA).length)]⟩) 53 rfl (by repeat' (first | exact True.intro | rfl | apply And.intro | (simp; done))) (by repeat' (first | exact True.intro | rfl | apply And.intro | (simp; done))) rfl) ?_
        refine wV ?_
        exact fin ⟨res_of rfl rfl rfl, trivial⟩
  · have ce := a_refencode I (fits_sm hI)
    rw [encode_fits hI] at ce
    have hbl := encB_len hI
    by_cases hx : x = 0#8
    · have hx0 : B8 x = 0 := B8_zero_iff.2 hx
      dsimp only at ce
      generalize encB I = bb at *
      refine AFn_intro Try.func7 rfl Try.ntmps7 rfl (by simp) [_] rfl fun E hE => ?_; have hnt : (!true) = false := rfl; have hnf : (!false) = true := rfl
      have d0 := acall Try.func10 (c0) (by decide +kernel) (by decide +kernel)
      have d1 := acall Try.func11 (c1) (by decide +kernel) (by decide +kernel)
      have d2 := acall Try.func20 (ce) (by decide +kernel) (by decide +kernel)
      have d7 := acall Try.func12 (a_awake11) (by decide +kernel) (by decide +kernel)
      refine wX ?_
      (apply Wv; (focus (apply o_call Try.func19 (cp) rfl (by decide +kernel) rfl rfl; (any_goals (intro _; (repeat (first | exact wkl0 | refine wkd rfl ?_ | refine wkt ?_ | refine wkn ?_)); done)); (any_goals rfl))); (focus (first | exact want_n | exact want_g rfl (by with_reducible rfl))))
      refine wX ?_
      exact fin ⟨res_of rfl rfl rfl, trivial⟩
    have hx0 : ¬ B8 x = 0 := fun h => hx (B8_zero_iff.1 h)
    by_cases hin : 4 ≤ k ∧ k < 8
    · dsimp only at ce
      generalize encB I = bb at *
      have g1 : (4 : Int) ≤ (k : Nat) := by omega
      have g2 : ((k : Nat) : Int) < 8 := by omega
      refine AFn_intro Try.func7 rfl Try.ntmps7 rfl (by simp) [_] rfl fun E hE => ?_; have hnt : (!true) = false := rfl; have hnf : (!false) = true := rfl
      have d0 := acall Try.func10 (c0) (by decide +kernel) (by decide +kernel)
      have d1 := acall Try.func11 (c1) (by decide +kernel) (by decide +kernel)
      have d2 := acall Try.func20 (ce) (by decide +kernel) (by decide +kernel)
      have d7 := acall Try.func12 (a_awake11) (by decide +kernel) (by decide +kernel)
      refine wX ?_
      (apply Wv; (focus (apply o_call Try.func19 (cp) rfl (by decide +kernel) rfl rfl; (any_goals (intro _; (repeat (first | exact wkl0 | refine wkd rfl ?_ | refine wkt ?_ | refine wkn ?_)); done)); (any_goals rfl))); (focus (first | exact want_n | exact want_g rfl (by with_reducible rfl))))
      refine wX ?_
      exact fin ⟨res_of rfl rfl rfl, trivial⟩
    have ho : k < 4 ∨ 8 ≤ k := by omega
    have htl : (turn (encB I) k x).length = 256 := by rw [turn_len]; exact hbl
    have cw := a_whole (turn (encB I) k x) htl
    have cd := a_cdecode (wholeB (turn (encB I) k x)) (by rw [whole_len htl]; omega)
    rcases decode_whole htl with hd | ⟨M, hd, hM, hMe⟩
    · rw [hd] at cd
      have cs := AFn_weak (a_refsame Nd.zero Nd.zero zero_sm) (xs := [Nd.zero.av, nodeA false nilA nilA nilA nilA]) (fun H => .cons (Wk.data rfl) (.cons (Wk.agg (.cons (Wk.data rfl) (.cons Wk.nil (.cons Wk.nil (.cons Wk.nil (.cons Wk.nil .nil)))))) .nil))
      rw [decide_eq_true rfl] at cs
      dsimp only at ce cd
      clear hd htl
      generalize encB I = bb at *
      by_cases hlo : k < 4
      · have g1 : ¬ (4 : Int) ≤ (k : Nat) := by omega
        refine AFn_intro Try.func7 rfl Try.ntmps7 rfl (by simp) [_] rfl fun E hE => ?_; have hnt : (!true) = false := rfl; have hnf : (!false) = true := rfl
        have d0 := acall Try.func10 (c0) (by decide +kernel) (by decide +kernel)
        have d1 := acall Try.func11 (c1) (by decide +kernel) (by decide +kernel)
        have d2 := acall Try.func20 (ce) (by decide +kernel) (by decide +kernel)
        have d7 := acall Try.func12 (a_awake11) (by decide +kernel) (by decide +kernel)
        have d3 := acall Try.func17 (cw) (by decide +kernel) (by decide +kernel)
        have d4 := acall Try.func14 (cd) (by decide +kernel) (by decide +kernel)
        have d5 := acall Try.func16 (cs) (by decide +kernel) (by decide +kernel)
        refine wX ?_
        (apply Wv; (focus (apply o_call Try.func19 (cp) rfl (by decide +kernel) rfl rfl; (any_goals (intro _; (repeat (first | exact wkl0 | refine wkd rfl ?_ | refine wkt ?_ | refine wkn ?_)); done)); (any_goals rfl))); (focus (first | exact want_n | exact want_g rfl (by with_reducible rfl))))
        refine wRX ?_
        refine thenA_n ?_
        refine wRX ?_
        refine thenA_n ?_
        refine wRX ?_
        refine thenA_n ?_
        refine wRX ?_
        refine thenA_n ?_
        refine wRX ?_
        refine thenA_n ?_
        rw [set_turn]
        refine AW_go (S' := ⟨[(15, .ptr 15 0 []), (19, .own 53 1 (turn bb k x).length .row)], [(15, .var (Nd.av I)), (53, .own 5 1 ((turn bb k x).map byteA))]⟩) (by rw [turn_len]; (refine Go2.sub ⟨?_, ?_, ?_⟩ <;> repeat' (first | exact True.intro | rfl | apply And.intro))) ?_
        refine AW_go (Go2.thaw (S' := ⟨[(15, .ptr 15 0 []), (19, .sl (some 53) 1 ((turn bb k x).map byteA))], [(15, .var (Nd.av I)), (53, .tail 5 1 ((turn bb k x).map byteA).length)]⟩) 53 rfl (by repeat' (first | exact True.intro | rfl | apply And.intro | (simp; done))) (by repeat' (first | exact True.intro | rfl | apply And.intro | (simp; done))) rfl) ?_
        refine wV ?_
        exact fin ⟨res_of rfl rfl rfl, trivial⟩
      · have g1 : (4 : Int) ≤ (k : Nat) := by omega
        have g2 : ¬ ((k : Nat) : Int) < 8 := by omega
        refine AFn_intro Try.func7 rfl Try.ntmps7 rfl (by simp) [_] rfl fun E hE => ?_; have hnt : (!true) = false := rfl; have hnf : (!false) = true := rfl
        have d0 := acall Try.func10 (c0) (by decide +kernel) (by decide +kernel)
        have d1 := acall Try.func11 (c1) (by decide +kernel) (by decide +kernel)
        have d2 := acall Try.func20 (ce) (by decide +kernel) (by decide +kernel)
        have d7 := acall Try.func12 (a_awake11) (by decide +kernel) (by decide +kernel)
        have d3 := acall Try.func17 (cw) (by decide +kernel) (by decide +kernel)
        have d4 := acall Try.func14 (cd) (by decide +kernel) (by decide +kernel)
        have d5 := acall Try.func16 (cs) (by decide +kernel) (by decide +kernel)
        refine wX ?_
        (apply Wv; (focus (apply o_call Try.func19 (cp) rfl (by decide +kernel) rfl rfl; (any_goals (intro _; (repeat (first | exact wkl0 | refine wkd rfl ?_ | refine wkt ?_ | refine wkn ?_)); done)); (any_goals rfl))); (focus (first | exact want_n | exact want_g rfl (by with_reducible rfl))))
        refine wRX ?_
        refine thenA_n ?_
        refine wRX ?_
        refine thenA_n ?_
        refine wRX ?_
        refine thenA_n ?_
        refine wRX ?_
        refine thenA_n ?_
        refine wRX ?_
        refine thenA_n ?_
        rw [set_turn]
        refine AW_go (S' := ⟨[(15, .ptr 15 0 []), (19, .own 53 1 (turn bb k x).length .row)], [(15, .var (Nd.av I)), (53, .own 5 1 ((turn bb k x).map byteA))]⟩) (by rw [turn_len]; (refine Go2.sub ⟨?_, ?_, ?_⟩ <;> repeat' (first | exact True.intro | rfl | apply And.intro))) ?_
        refine AW_go (Go2.thaw (S' := ⟨[(15, .ptr 15 0 []), (19, .sl (some 53) 1 ((turn bb k x).map byteA))], [(15, .var (Nd.av I)), (53, .tail 5 1 ((turn bb k x).map byteA).length)]⟩) 53 rfl (by repeat' (first | exact True.intro | rfl | apply And.intro | (simp; done))) (by repeat' (first | exact True.intro | rfl | apply And.intro | (simp; done))) rfl) ?_
        refine wV ?_
        exact fin ⟨res_of rfl rfl rfl, trivial⟩
    · rw [hd] at cd
      have hne := turned_ne hI hM hk ho hx hMe
      have cs := a_refsame M I (fits_sm hM)
      rw [decide_eq_false hne] at cs
      have cf := a_ref09fits M (fits_sm hM)
      rw [hM] at cf
      have ce2 := a_cencode M (fits_sm hM)
      rw [encode_fits hM, hMe] at ce2
      dsimp only at ce cd ce2
      clear hd htl hMe
      generalize encB I = bb at *
      have hww : decide (wholeB (turn bb k x) = wholeB (turn bb k x)) = true := decide_eq_true rfl
      by_cases hlo : k < 4
      · have g1 : ¬ (4 : Int) ≤ (k : Nat) := by omega
        refine AFn_intro Try.func7 rfl Try.ntmps7 rfl (by simp) [_] rfl fun E hE => ?_; have hnt : (!true) = false := rfl; have hnf : (!false) = true := rfl
        have d0 := acall Try.func10 (c0) (by decide +kernel) (by decide +kernel)
        have d1 := acall Try.func11 (c1) (by decide +kernel) (by decide +kernel)
        have d2 := acall Try.func20 (ce) (by decide +kernel) (by decide +kernel)
        have d7 := acall Try.func12 (a_awake11) (by decide +kernel) (by decide +kernel)
        have d3 := acall Try.func17 (cw) (by decide +kernel) (by decide +kernel)
        have d4 := acall Try.func14 (cd) (by decide +kernel) (by decide +kernel)
        have d5 := acall Try.func16 (cs) (by decide +kernel) (by decide +kernel)
        have d6 := acall Try.func21 (cf) (by decide +kernel) (by decide +kernel)
        have d8 := acall Try.func18 (ce2) (by decide +kernel) (by decide +kernel)
        refine wX ?_
        (apply Wv; (focus (apply o_call Try.func19 (cp) rfl (by decide +kernel) rfl rfl; (any_goals (intro _; (repeat (first | exact wkl0 | refine wkd rfl ?_ | refine wkt ?_ | refine wkn ?_)); done)); (any_goals rfl))); (focus (first | exact want_n | exact want_g rfl (by with_reducible rfl))))
        refine wRX ?_
        refine thenA_n ?_
        refine wRX ?_
        refine thenA_n ?_
        refine wRX ?_
        refine thenA_n ?_
        refine wRX ?_
        refine thenA_n ?_
        refine wRX ?_
        refine thenA_n ?_
        rw [set_turn]
        refine AW_go (S' := ⟨[(15, .ptr 15 0 []), (19, .own 53 1 (turn bb k x).length .row)], [(15, .var (Nd.av I)), (53, .own 5 1 ((turn bb k x).map byteA))]⟩) (by rw [turn_len]; (refine Go2.sub ⟨?_, ?_, ?_⟩ <;> repeat' (first | exact True.intro | rfl | apply And.intro))) ?_
        refine AW_go (Go2.thaw (S' := ⟨[(15, .ptr 15 0 []), (19, .sl (some 53) 1 ((turn bb k x).map byteA))], [(15, .var (Nd.av I)), (53, .tail 5 1 ((turn bb k x).map byteA).length)]⟩) 53 rfl (by repeat' (first | exact True.intro | rfl | apply And.intro | (simp; done))) (by repeat' (first | exact True.intro | rfl | apply And.intro | (simp; done))) rfl) ?_
        refine wV ?_
        exact fin ⟨res_of rfl rfl rfl, trivial⟩
      · have g1 : (4 : Int) ≤ (k : Nat) := by omega
        have g2 : ¬ ((k : Nat) : Int) < 8 := by omega
        refine AFn_intro Try.func7 rfl Try.ntmps7 rfl (by simp) [_] rfl fun E hE => ?_; have hnt : (!true) = false := rfl; have hnf : (!false) = true := rfl
        have d0 := acall Try.func10 (c0) (by decide +kernel) (by decide +kernel)
        have d1 := acall Try.func11 (c1) (by decide +kernel) (by decide +kernel)
        have d2 := acall Try.func20 (ce) (by decide +kernel) (by decide +kernel)
        have d7 := acall Try.func12 (a_awake11) (by decide +kernel) (by decide +kernel)
        have d3 := acall Try.func17 (cw) (by decide +kernel) (by decide +kernel)
        have d4 := acall Try.func14 (cd) (by decide +kernel) (by decide +kernel)
        have d5 := acall Try.func16 (cs) (by decide +kernel) (by decide +kernel)
        have d6 := acall Try.func21 (cf) (by decide +kernel) (by decide +kernel)
        have d8 := acall Try.func18 (ce2) (by decide +kernel) (by decide +kernel)
        refine wX ?_
        (apply Wv; (focus (apply o_call Try.func19 (cp) rfl (by decide +kernel) rfl rfl; (any_goals (intro _; (repeat (first | exact wkl0 | refine wkd rfl ?_ | refine wkt ?_ | refine wkn ?_)); done)); (any_goals rfl))); (focus (first | exact want_n | exact want_g rfl (by with_reducible rfl))))
        refine wRX ?_
        refine thenA_n ?_
        refine wRX ?_
        refine thenA_n ?_
        refine wRX ?_
        refine thenA_n ?_
        refine wRX ?_
        refine thenA_n ?_
        refine wRX ?_
        refine thenA_n ?_
        rw [set_turn]
        refine AW_go (S' := ⟨[(15, .ptr 15 0 []), (19, .own 53 1 (turn bb k x).length .row)], [(15, .var (Nd.av I)), (53, .own 5 1 ((turn bb k x).map byteA))]⟩) (by rw [turn_len]; (refine Go2.sub ⟨?_, ?_, ?_⟩ <;> repeat' (first | exact True.intro | rfl | apply And.intro))) ?_
        refine AW_go (Go2.thaw (S' := ⟨[(15, .ptr 15 0 []), (19, .sl (some 53) 1 ((turn bb k x).map byteA))], [(15, .var (Nd.av I)), (53, .tail 5 1 ((turn bb k x).map byteA).length)]⟩) 53 rfl (by repeat' (first | exact True.intro | rfl | apply And.intro | (simp; done))) (by repeat' (first | exact True.intro | rfl | apply And.intro | (simp; done))) rfl) ?_
        refine wV ?_
        exact fin ⟨res_of rfl rfl rfl, trivial⟩
theorem codecOnce_walk (v0 : Value) (l0 : List (Int)) (v1 : Value) (l1 : List (Int)) (n2 : Int) (v3 : Value) (l3 : List (Int)) (c4 : Bool) (n5 : Int) (x6 : BitVec 8) (w : World) (s0 : Sl ie 1 w v0 l0) (g0 : ∀ n ∈ l0, -9223372036854775808 ≤ n ∧ n ≤ 9223372036854775807) (z0 : l0.length ≤ 17592186043904) (s1 : Sl ie 1 w v1 l1) (g1 : ∀ n ∈ l1, -9223372036854775808 ≤ n ∧ n ≤ 9223372036854775807) (z1 : l1.length ≤ 17592186043904) (b2 : -9223372036854775808 ≤ n2 ∧ n2 ≤ 9223372036854775807) (s3 : Sl ie 1 w v3 l3) (g3 : ∀ n ∈ l3, -9223372036854775808 ≤ n ∧ n ≤ 9223372036854775807) (z3 : l3.length ≤ 17592186043904) (b5 : -9223372036854775808 ≤ n5 ∧ n5 ≤ 9223372036854775807) :
    Calls Try.prog 7 #[v0, v1, .int .i64 n2, v3, .bool c4, .int .i64 n5, .int .u8 (B8 x6)] w (Is w (.bool true)) :=
  law_of (a_codecOnce l0 l1 n2 l3 c4 n5 x6 g0 (by omega) g1 b2 g3 b5) (rdp_cons rfl (ints_in s0) (rdp_cons rfl (ints_in s1) (rdp_cons rfl int_in (rdp_cons rfl (ints_in s3) (rdp_cons rfl (Rdv_v.2 ⟨rfl, rfl⟩) (rdp_cons rfl int_in (rdp_cons rfl (Rdv_v.2 ⟨rfl, rfl⟩) rdp_nil')))))))
end Go.Proofs.Ytcmdhpinelnclaa

namespace Go.Proofs.Ytcmdhpinelnclaa
open Go Go.RowKit
set_option linter.unusedVariables false
set_option linter.unusedSimpArgs false
set_option maxRecDepth 100000

attribute [local irreducible] OpOK AWops AW CondB Go2 AFn thenA inBlockA noGotoA orderOk wantedA
set_option maxRecDepth 100000 in
set_option maxHeartbeats 16000000 in
theorem a_codecApart (e f p q : List Int) (v : Int) (l m : List Int) (he : ∀ n ∈ e, -9223372036854775808 ≤ n ∧ n ≤ 9223372036854775807) (hf : ∀ n ∈ f, -9223372036854775808 ≤ n ∧ n ≤ 9223372036854775807) (hpl : p.length ≤ 17592186044400) (hpb : ∀ n ∈ p, -9223372036854775808 ≤ n ∧ n ≤ 9223372036854775807) (hql : q.length ≤ 17592186044400) (hqb : ∀ n ∈ q, -9223372036854775808 ≤ n ∧ n ≤ 9223372036854775807) (hv : -9223372036854775808 ≤ v ∧ v ≤ 9223372036854775807) (hlb : ∀ n ∈ l, -9223372036854775808 ≤ n ∧ n ≤ 9223372036854775807) (hmb : ∀ n ∈ m, -9223372036854775808 ≤ n ∧ n ≤ 9223372036854775807) :
    AFn Try.prog 8 [intsA e, intsA f, intsA p, intsA q, intA v, intsA l, intsA m] (boolA true) := by
  have c0 := a_lleaf e he
  have c1 := a_lleaf f hf
  have c2 := a_inner p v l hpl hpb hv hlb
  have c3 := a_inner q v m hql hqb hv hmb
  have hA := leafN_fits e
  have hB := leafN_fits f
  have hC := innerN_fits p v l
  have hD := innerN_fits q v m
  have hAC : leafN e ≠ innerN p v l := fun h => by cases congrArg Nd.leaf h
  generalize leafN e = A at *
  generalize leafN f = B at *
  generalize innerN p v l = C at *
  generalize innerN q v m = D at *
  have k0 := a_cencode A (fits_sm hA)
  have k1 := a_cencode B (fits_sm hB)
  have k2 := a_cencode C (fits_sm hC)
  have k3 := a_cencode D (fits_sm hD)
  rw [encode_fits hA] at k0
  rw [encode_fits hB] at k1
  rw [encode_fits hC] at k2
  rw [encode_fits hD] at k3
  dsimp only at k0 k1 k2 k3
  have s0 := a_refsame A B (fits_sm hA)
  have s1 := a_refsame C D (fits_sm hC)
  have s2 := a_refsame A A (fits_sm hA)
  have s3 := a_refsame C C (fits_sm hC)
  rw [decide_eq_true rfl] at s2 s3
  have lA := encB_len hA
  have lC := encB_len hC
  have lA' : ((encB A).length : Int) = 256 := by omega
  have lC' : ((encB C).length : Int) = 256 := by omega
  have nAC : (!decide (encB A = encB C)) = true := by rw [decide_eq_false (fun h => hAC (enc_inj hA hC h))]; rfl
  have eAB : decide (encB A = encB B) = decide (A = B) := by rw [decide_eq_decide]; exact ⟨fun h => enc_inj hA hB h, fun h => by rw [h]⟩
  have eCD : decide (encB C = encB D) = decide (C = D) := by rw [decide_eq_decide]; exact ⟨fun h => enc_inj hC hD h, fun h => by rw [h]⟩
  cases qAB : decide (A = B) <;> cases qCD : decide (C = D)
  · rw [qAB] at s0 eAB
    rw [qCD] at s1 eCD
    have gAB : (decide (encB A = encB B) == false) = true := by rw [eAB]; rfl
    have gCD : (decide (encB C = encB D) == false) = true := by rw [eCD]; rfl
    generalize encB A = wA at *
    generalize encB B = wB at *
    generalize encB C = wC at *
    generalize encB D = wD at *
    refine AFn_intro Try.func8 rfl Try.ntmps8 rfl (by simp) [_] rfl fun E hE => ?_; have hnt : (!true) = false := rfl; have hnf : (!false) = true := rfl
    have d0 := acall Try.func10 (c0) (by decide +kernel) (by decide +kernel)
    have d1 := acall Try.func10 (c1) (by decide +kernel) (by decide +kernel)
    have d2 := acall Try.func11 (c2) (by decide +kernel) (by decide +kernel)
    have d3 := acall Try.func11 (c3) (by decide +kernel) (by decide +kernel)
    have d4 := acall Try.func18 (k0) (by decide +kernel) (by decide +kernel)
    have d5 := acall Try.func18 (k1) (by decide +kernel) (by decide +kernel)
    have d6 := acall Try.func18 (k2) (by decide +kernel) (by decide +kernel)
    have d7 := acall Try.func18 (k3) (by decide +kernel) (by decide +kernel)
    have d8 := acall Try.func16 (s0) (by decide +kernel) (by decide +kernel)
    have d9 := acall Try.func16 (s1) (by decide +kernel) (by decide +kernel)
    have d10 := acall Try.func16 (s2) (by decide +kernel) (by decide +kernel)
    have d11 := acall Try.func16 (s3) (by decide +kernel) (by decide +kernel)
    have d12 := acall Try.func12 (a_awake11) (by decide +kernel) (by decide +kernel)
    refine wX ?_
    exact fin ⟨res_of rfl rfl rfl, trivial⟩
  · rw [qAB] at s0 eAB
    rw [qCD] at s1 eCD
    have gAB : (decide (encB A = encB B) == false) = true := by rw [eAB]; rfl
    have gCD : (decide (encB C = encB D) == true) = true := by rw [eCD]; rfl
    generalize encB A = wA at *
    generalize encB B = wB at *
    generalize encB C = wC at *
    generalize encB D = wD at *
    refine AFn_intro Try.func8 rfl Try.ntmps8 rfl (by simp) [_] rfl fun E hE => ?_; have hnt : (!true) = false := rfl; have hnf : (!false) = true := rfl
    have d0 := acall Try.func10 (c0) (by decide +kernel) (by decide +kernel)
    have d1 := acall Try.func10 (c1) (by decide +kernel) (by decide +kernel)
    have d2 := acall Try.func11 (c2) (by decide +kernel) (by decide +kernel)
    have d3 := acall Try.func11 (c3) (by decide +kernel) (by decide +kernel)
    have d4 := acall Try.func18 (k0) (by decide +kernel) (by decide +kernel)
    have d5 := acall Try.func18 (k1) (by decide +kernel) (by decide +kernel)
    have d6 := acall Try.func18 (k2) (by decide +kernel) (by decide +kernel)
    have d7 := acall Try.func18 (k3) (by decide +kernel) (by decide +kernel)
    have d8 := acall Try.func16 (s0) (by decide +kernel) (by decide +kernel)
    have d9 := acall Try.func16 (s1) (by decide +kernel) (by decide +kernel)
    have d10 := acall Try.func16 (s2) (by decide +kernel) (by decide +kernel)
    have d11 := acall Try.func16 (s3) (by decide +kernel) (by decide +kernel)
    have d12 := acall Try.func12 (a_awake11) (by decide +kernel) (by decide +kernel)
    refine wX ?_
    exact fin ⟨res_of rfl rfl rfl, trivial⟩
  · rw [qAB] at s0 eAB
    rw [qCD] at s1 eCD
    have gAB : (decide (encB A = encB B) == true) = true := by rw [eAB]; rfl
    have gCD : (decide (encB C = encB D) == false) = true := by rw [eCD]; rfl
    generalize encB A = wA at *
    generalize encB B = wB at *
    generalize encB C = wC at *
    generalize encB D = wD at *
    refine AFn_intro Try.func8 rfl Try.ntmps8 rfl (by simp) [_] rfl fun E hE => ?_; have hnt : (!true) = false := rfl; have hnf : (!false) = true := rfl
    have d0 := acall Try.func10 (c0) (by decide +kernel) (by decide +kernel)
    have d1 := acall Try.func10 (c1) (by decide +kernel) (by decide +kernel)
    have d2 := acall Try.func11 (c2) (by decide +kernel) (by decide +kernel)
    have d3 := acall Try.func11 (c3) (by decide +kernel) (by decide +kernel)
    have d4 := acall Try.func18 (k0) (by decide +kernel) (by decide +kernel)
    have d5 := acall Try.func18 (k1) (by decide +kernel) (by decide +kernel)
    have d6 := acall Try.func18 (k2) (by decide +kernel) (by decide +kernel)
    have d7 := acall Try.func18 (k3) (by decide +kernel) (by decide +kernel)
    have d8 := acall Try.func16 (s0) (by decide +kernel) (by decide +kernel)
    have d9 := acall Try.func16 (s1) (by decide +kernel) (by decide +kernel)
    have d10 := acall Try.func16 (s2) (by decide +kernel) (by decide +kernel)
    have d11 := acall Try.func16 (s3) (by decide +kernel) (by decide +kernel)
    have d12 := acall Try.func12 (a_awake11) (by decide +kernel) (by decide +kernel)
    refine wX ?_
    exact fin ⟨res_of rfl rfl rfl, trivial⟩
  · rw [qAB] at s0 eAB
    rw [qCD] at s1 eCD
    have gAB : (decide (encB A = encB B) == true) = true := by rw [eAB]; rfl
    have gCD : (decide (encB C = encB D) == true) = true := by rw [eCD]; rfl
    generalize encB A = wA at *
    generalize encB B = wB at *
    generalize encB C = wC at *
    generalize encB D = wD at *
    refine AFn_intro Try.func8 rfl Try.ntmps8 rfl (by simp) [_] rfl fun E hE => ?_; have hnt : (!true) = false := rfl; have hnf : (!false) = true := rfl
    have d0 := acall Try.func10 (c0) (by decide +kernel) (by decide +kernel)
    have d1 := acall Try.func10 (c1) (by decide +kernel) (by decide +kernel)
    have d2 := acall Try.func11 (c2) (by decide +kernel) (by decide +kernel)
    have d3 := acall Try.func11 (c3) (by decide +kernel) (by decide +kernel)
    have d4 := acall Try.func18 (k0) (by decide +kernel) (by decide +kernel)
    have d5 := acall Try.func18 (k1) (by decide +kernel) (by decide +kernel)
    have d6 := acall Try.func18 (k2) (by decide +kernel) (by decide +kernel)
    have d7 := acall Try.func18 (k3) (by decide +kernel) (by decide +kernel)
    have d8 := acall Try.func16 (s0) (by decide +kernel) (by decide +kernel)
    have d9 := acall Try.func16 (s1) (by decide +kernel) (by decide +kernel)
    have d10 := acall Try.func16 (s2) (by decide +kernel) (by decide +kernel)
    have d11 := acall Try.func16 (s3) (by decide +kernel) (by decide +kernel)
    have d12 := acall Try.func12 (a_awake11) (by decide +kernel) (by decide +kernel)
    refine wX ?_
    exact fin ⟨res_of rfl rfl rfl, trivial⟩
theorem codecApart_walk (v0 : Value) (l0 : List (Int)) (v1 : Value) (l1 : List (Int)) (v2 : Value) (l2 : List (Int)) (v3 : Value) (l3 : List (Int)) (n4 : Int) (v5 : Value) (l5 : List (Int)) (v6 : Value) (l6 : List (Int)) (w : World) (s0 : Sl ie 1 w v0 l0) (g0 : ∀ n ∈ l0, -9223372036854775808 ≤ n ∧ n ≤ 9223372036854775807) (z0 : l0.length ≤ 17592186043904) (s1 : Sl ie 1 w v1 l1) (g1 : ∀ n ∈ l1, -9223372036854775808 ≤ n ∧ n ≤ 9223372036854775807) (z1 : l1.length ≤ 17592186043904) (s2 : Sl ie 1 w v2 l2) (g2 : ∀ n ∈ l2, -9223372036854775808 ≤ n ∧ n ≤ 9223372036854775807) (z2 : l2.length ≤ 17592186043904) (s3 : Sl ie 1 w v3 l3) (g3 : ∀ n ∈ l3, -9223372036854775808 ≤ n ∧ n ≤ 9223372036854775807) (z3 : l3.length ≤ 17592186043904) (b4 : -9223372036854775808 ≤ n4 ∧ n4 ≤ 9223372036854775807) (s5 : Sl ie 1 w v5 l5) (g5 : ∀ n ∈ l5, -9223372036854775808 ≤ n ∧ n ≤ 9223372036854775807) (z5 : l5.length ≤ 17592186043904) (s6 : Sl ie 1 w v6 l6) (g6 : ∀ n ∈ l6, -9223372036854775808 ≤ n ∧ n ≤ 9223372036854775807) (z6 : l6.length ≤ 17592186043904) :
    Calls Try.prog 8 #[v0, v1, v2, v3, .int .i64 n4, v5, v6] w (Is w (.bool true)) :=
  law_of (a_codecApart l0 l1 l2 l3 n4 l5 l6 g0 g1 (by omega) g2 (by omega) g3 b4 g5 g6) (rdp_cons rfl (ints_in s0) (rdp_cons rfl (ints_in s1) (rdp_cons rfl (ints_in s2) (rdp_cons rfl (ints_in s3) (rdp_cons rfl int_in (rdp_cons rfl (ints_in s5) (rdp_cons rfl (ints_in s6) rdp_nil')))))))
end Go.Proofs.Ytcmdhpinelnclaa
