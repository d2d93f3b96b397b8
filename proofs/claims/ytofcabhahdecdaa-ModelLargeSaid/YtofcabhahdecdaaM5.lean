/-
  M5: several texts as one: Model4, AfnFan0, AfnFan, AfnRef8, Model5, Model6, LawModel1. No condition beyond those that each theorem states.
-/
import Derived.Test.YtofcabhahdecdaaM4
namespace Go.Proofs.Ytofcabhahdecdaa
open Go Go.RowKit
set_option linter.unusedVariables false
set_option linter.unusedSimpArgs false
set_option maxRecDepth 100000

@[irreducible] def Vl.txt (k : Vl) : List (BitVec 8) := if k.ok then cut k.b k.n.toNat else []
theorem Vl.txt_ok {k : Vl} (h : k.ok = true) : k.txt = cut k.b k.n.toNat := by unfold Vl.txt; rw [if_pos h]
theorem Vl.txt_no {k : Vl} (h : k.ok = false) : k.txt = [] := by unfold Vl.txt; rw [if_neg (by rw [h]; simp)]
set_option maxRecDepth 100000 in
set_option maxHeartbeats 4000000 in
theorem reftext_any (k : Key) (w : World) : Calls Try.prog 18 #[.agg k.arr] w (Is w (.string (bytesOf k.txt))) := by
  cases hok : k.ok
  · have htx := Key.txt_no hok
    go_enter Try.func18, Try.ntmps18
    go_wp2_with fail
    refine (refkeycheck_any _ _).mono ?_
    rintro e w1 ⟨rfl, he1⟩
    go_wp2
    go_ret
    exact ⟨by rw [htx, bytesOf_nil]; rfl, (by repeat (first | exact Ext.refl _ | assumption | refine Ext.drew ?_ | refine Ext.drewN ?_ _ | refine Ext.alloc ?_ _ | refine Ext.trans ?_ (by assumption)))⟩
  · have htx := Key.txt_ok hok
    obtain ⟨h0, h8, -⟩ := (Key.ok_iff k).1 hok
    obtain ⟨kn, kb⟩ := k
    obtain ⟨n, rfl⟩ : ∃ n : Nat, kn = (n : Int) := ⟨kn.toNat, by simp at h0; omega⟩
    have hn8 : n ≤ 8 := by simp at h8; omega
    have hn8' : (n : Int) ≤ 8 := by omega
    have HT := Lib.hid htx
    clear htx
    go_enter Try.func18, Try.ntmps18
    go_wp2_with fail
    refine (refkeycheck_any _ _).mono ?_
    rintro e w1 ⟨rfl, he1⟩
    have hr : row? w1 w.heap.size 0 9 = some (Key.mk (n : Int) kb).arr := he1.row (by simp [go_sem])
    have hc := row_cell hr (j := 0) (by omega) (Key.arr_n _)
    have hs := sl_of_bArr (g := w.heap.size) (o := 1) (w := w1) (b := kb) (by rw [← Nat.zero_add 1, row_sub hr 1 8 (by omega)]; exact Key.row_b _) n 8 hn8 hn8 (by unfold maxLen; omega)
    have hcv := run_str_sl Try.underlying77 Try.underlying5 Try.underlying9 hs
    clear hs
    simp only [Nat.zero_add] at hc
    go_wp2
    go_ret
    exact ⟨by rw [HT.out]; rfl, (by repeat (first | exact Ext.refl _ | assumption | refine Ext.drew ?_ | refine Ext.drewN ?_ _ | refine Ext.alloc ?_ _ | refine Ext.trans ?_ (by assumption)))⟩
set_option maxRecDepth 100000 in
set_option maxHeartbeats 4000000 in
theorem refvtext_any (k : Vl) (w : World) : Calls Try.prog 44 #[.agg k.arr] w (Is w (.string (bytesOf k.txt))) := by
  cases hok : k.ok
  · have htx := Vl.txt_no hok
    go_enter Try.func44, Try.ntmps44
    go_wp2_with fail
    refine (refvlcheck_any _ _).mono ?_
    rintro e w1 ⟨rfl, he1⟩
    go_wp2
    go_ret
    exact ⟨by rw [htx, bytesOf_nil]; rfl, (by repeat (first | exact Ext.refl _ | assumption | refine Ext.drew ?_ | refine Ext.drewN ?_ _ | refine Ext.alloc ?_ _ | refine Ext.trans ?_ (by assumption)))⟩
  · have htx := Vl.txt_ok hok
    obtain ⟨h0, h8, -⟩ := (Vl.ok_iff k).1 hok
    obtain ⟨kn, kb⟩ := k
    obtain ⟨n, rfl⟩ : ∃ n : Nat, kn = (n : Int) := ⟨kn.toNat, by simp at h0; omega⟩
    have hn8 : n ≤ 16 := by simp at h8; omega
    have hn8' : (n : Int) ≤ 16 := by omega
    have HT := Lib.hid htx
    clear htx
    go_enter Try.func44, Try.ntmps44
    go_wp2_with fail
    refine (refvlcheck_any _ _).mono ?_
    rintro e w1 ⟨rfl, he1⟩
    have hr : row? w1 w.heap.size 0 17 = some (Vl.mk (n : Int) kb).arr := he1.row (by simp [go_sem])
    have hc := row_cell hr (j := 0) (by omega) (Vl.arr_n _)
    have hs := sl_of_bArr (g := w.heap.size) (o := 1) (w := w1) (b := kb) (by rw [← Nat.zero_add 1, row_sub hr 1 16 (by omega)]; exact Vl.row_b _) n 16 hn8 hn8 (by unfold maxLen; omega)
    have hcv := run_str_sl Try.underlying77 Try.underlying5 Try.underlying9 hs
    clear hs
    simp only [Nat.zero_add] at hc
    go_wp2
    go_ret
    exact ⟨by rw [HT.out]; rfl, (by repeat (first | exact Ext.refl _ | assumption | refine Ext.drew ?_ | refine Ext.drewN ?_ _ | refine Ext.alloc ?_ _ | refine Ext.trans ?_ (by assumption)))⟩
theorem a_reftext (k : Key) : AFn Try.prog 18 [k.av] (strA (bytesOf k.txt)) := fun U w vs h => by
  obtain ⟨v1, us, rfl, h1, h⟩ := rdp_one h
  obtain rfl := rdp_nil h
  rw [dKey.rdv.1 h1]
  exact ofIs (reftext_any k w) fun w' => Rdv_v.2 ⟨rfl, rfl⟩
theorem a_refvtext (k : Vl) : AFn Try.prog 44 [k.av] (strA (bytesOf k.txt)) := fun U w vs h => by
  obtain ⟨v1, us, rfl, h1, h⟩ := rdp_one h
  obtain rfl := rdp_nil h
  rw [dVl.rdv.1 h1]
  exact ofIs (refvtext_any k w) fun w' => Rdv_v.2 ⟨rfl, rfl⟩
section
variable {E : Env} {nt : Nat} {ops : Array Oper} {T : Nat → Option AV} {H : Hp} {d : Option Nat} {ty : TypeId} {pos : String} {af : Array Edge} {gd : Option (Nat × Bool)}
theorem o_catn {t t' : TypeId} {x y : Operand} {a b : ByteArray} (hd : dOk nt d = true) (hx : evalO T x = some (.v (.string a))) (hy : evalO T y = some (.v (.string b))) (hb : Nat.ble b.size 1000 = true) (ha : a.size ≤ 1000000) : OpOK Try.prog E nt ops ⟨d, .binOp .add t x y t', ty, pos, af, gd⟩ T H [] ⟨.v (.string (a ++ b)), []⟩ :=
  ok_bin hd hx hy (fun w => by
    have hb' := Nat.le_of_ble_eq_true hb
    have h' : ¬ ((a.size + b.size : Nat) : Int) > 9223372036854775807 := by omega
    have hm : IntKind.i64.max = 9223372036854775807 := by decide
    simp only [eqGuard, binOp, Op.stringOp, Sem.run_bind, hm, if_neg h']
    rfl) rfl
end
def nine : ByteArray := { data := #[49, 50, 51, 52, 53, 54, 55, 56, 57] }
def seventeen : ByteArray := { data := #[115, 101, 118, 101, 110, 116, 101, 101, 110, 32, 98, 121, 116, 101, 115, 32, 46, 46] }
/-- an operation by a number -/
def lawOp (v : Int) : Opn :=
  let k := v % 1099511627776
  ⟨1 + k % 4, if k / 8 % 64 = 7 then bytesOf (lawKey (k / 4)).txt ++ nine else bytesOf (lawKey (k / 4)).txt,
   if k % 4 = 0 then (if k / 8 % 64 = 9 then bytesOf (lawVl (k / 64)).txt ++ seventeen else bytesOf (lawVl (k / 64)).txt) else .empty,
   if k % 4 = 2 then BitVec.ofInt 64 (k / 4096) * 4099#64 else 0#64⟩
theorem Vl.txt_length (k : Vl) : k.txt.length ≤ 16 := by
  cases h : k.ok
  · rw [Vl.txt_no h]; simp
  · rw [Vl.txt_ok h]; unfold cut; simp; omega
theorem wR {Q R : Prop} (k : R) (h : Hid R → Q := by intro kHid; (repeat (first | (first | refine Wend _ ?_ | refine AW_seq ?_ | refine AW_reg ?_ | refine AW_drw mixed ?_ | refine AW_block ?_ | refine AW_scope ?_ | refine thenA_n ?_ | refine blockA_n ?_ | refine blockA_h ?_ | refine scopeA_n ?_ | refine thenA_r ?_ | refine blockA_r ?_ | refine scopeA_r ?_ | refine thenA_e ?_ | refine scopeA_e ?_ | refine blockA_e rfl ?_ | refine AW_exit ?_ | refine AW_ret ?_ | refine AW_skip ?_ | refine AW_c rfl ?_ | with_reducible refine cb_t ?_ | with_reducible refine cb_f ?_ | with_reducible refine cb_yes (by first | assumption | omega) ?_ | with_reducible refine cb_no (by first | assumption | omega) ?_ | refine And.intro (by decide +kernel) ?_) | (first | (apply Wv; (focus (first | exact step_ok rfl rfl | exact o_idx rfl rfl rfl rfl (by first | assumption | omega | decide) | exact o_idx3 rfl rfl rfl rfl (by first | assumption | omega | decide) | exact o_idx2 rfl rfl rfl rfl rfl (by first | assumption | omega | decide) | exact o_idxr rfl rfl rfl rfl rfl rfl | exact o_lenm rfl rfl rfl | exact o_len rfl rfl rfl | exact o_len0 rfl rfl rfl | exact o_lens rfl rfl rfl | exact o_lent rfl rfl | exact o_add1 rfl rfl rfl (by omega) | exact o_addn rfl rfl rfl (by omega) | exact o_add rfl rfl rfl (by omega) | exact o_sub1 rfl rfl rfl (by omega) | exact o_sub rfl rfl rfl (by omega) | exact o_mul rfl rfl rfl (by omega) | exact o_rem rfl rfl rfl (by omega) | exact ok_rem rfl rfl rfl (by decide) rfl | exact o_eqKey rfl rfl rfl | exact o_neKey rfl rfl rfl | exact o_eqVl rfl rfl rfl | exact o_neVl rfl rfl rfl | exact o_eqEnt rfl rfl rfl | exact o_neEnt rfl rfl rfl | exact o_eqMsg rfl rfl rfl | exact o_neMsg rfl rfl rfl | exact o_acall rfl rfl rfl rfl (by assumption) | exact o_minn rfl rfl rfl | exact o_cutl rfl rfl rfl rfl (by omega) | exact o_cuth rfl rfl rfl rfl (by omega) | exact o_cutl3 rfl rfl rfl rfl (by omega) | exact o_cuth3 rfl rfl rfl rfl (by omega) | exact o_cutl2 rfl rfl rfl rfl rfl (by omega) | exact o_cuth2 rfl rfl rfl rfl rfl (by omega) | exact o_cutlh2 rfl rfl rfl rfl rfl rfl rfl (by omega) (by omega) | exact o_bld zero_Opn rfl rfl rfl rfl rfl rfl rfl | exact o_bld zero_Ans rfl rfl rfl rfl rfl rfl rfl | exact o_eqAns rfl rfl rfl | exact o_neAns rfl rfl rfl | exact o_catn rfl rfl rfl rfl (by omega) | exact e_bld rfl rfl rfl | exact e_bldk rfl rfl | exact z_bld0 rfl rfl rfl rfl rfl | exact z_bld rfl rfl rfl rfl rfl rfl rfl | exact o_addu rfl rfl rfl | exact o_mulu rfl rfl rfl (by decide) | exact o_convb ⟨_, Try.underlying3⟩ Try.underlying5 rfl rfl | exact o_convu ⟨_, Try.underlying3⟩ Try.underlying35 rfl rfl | exact o_convs Try.underlying77 Try.underlying5 Try.underlying9 rfl rfl | exact o_idxs rfl rfl rfl rfl (by first | assumption | omega) | exact z_blda rfl rfl rfl rfl rfl rfl rfl rfl rfl | exact o_idxa rfl rfl rfl rfl rfl rfl | exact o_idxra rfl rfl rfl rfl rfl rfl rfl | exact o_quo2 rfl rfl rfl (by omega) | exact o_quo rfl rfl rfl (by omega))); (focus (first | exact want_n | exact want_g rfl (by with_reducible rfl)))) | (apply Wb; (focus (first | exact o_box rfl rfl rfl rfl | exact o_app rfl rfl rfl rfl rfl (by first | exact o_many rfl | exact o_one _ _ rfl) (by first | omega | (simp; omega) | simp) (by first | omega | (simp; omega) | simp) | exact o_appn rfl rfl rfl rfl rfl (by first | exact o_many rfl | exact o_one _ _ rfl) (by first | omega | (simp; omega) | simp) (by first | omega | (simp; omega) | simp) | exact o_app1 rfl rfl rfl rfl rfl (by first | exact o_many rfl | exact o_one _ _ rfl) (by exact rfl) (by first | omega | (simp; omega) | simp) (by first | omega | (simp; omega) | simp) | exact o_app0 rfl rfl rfl rfl rfl (by first | exact o_many rfl | exact o_one _ _ rfl) (by first | omega | (simp; omega) | simp) (by first | omega | (simp; omega) | simp) | exact o_bsl0 rfl rfl rfl | exact z_bsll rfl rfl rfl rfl rfl rfl rfl rfl rfl | exact z_alloc rfl rfl rfl | exact o_alloc zero_Opn rfl rfl | exact o_alloc zero_Ans rfl rfl | exact o_bsll zero_Ans rfl rfl rfl rfl rfl rfl rfl | exact o_bsll zero_Opn rfl rfl rfl rfl rfl rfl rfl rfl)); (focus (first | exact want_n | exact want_g rfl (by with_reducible rfl)))) | (apply Ws; (focus (exact ok_store tabT (d := none) rfl rfl rfl rfl rfl rfl rfl rfl rfl rfl)); (focus (first | exact want_n | exact want_g rfl (by with_reducible rfl)))) | (refine Wskip (by first | exact want_f rfl (by with_reducible exact b_nt) | exact want_f rfl (by with_reducible exact b_nf) | exact want_t rfl) rfl ?_) | refine Wgt rfl rfl (by first | assumption | omega | exact rfl) ?_ | refine Wgf rfl rfl (by first | assumption | omega | exact rfl) ?_ | (refine Wgb rfl rfl (by with_reducible assumption) ?_) | (refine cb_is _ (by assumption) ?_)))); exact kHid.out) : Q := h ⟨k⟩
attribute [local irreducible] OpOK AWops AW CondB Go2 AFn thenA inBlockA noGotoA orderOk wantedA
set_option maxRecDepth 100000 in
set_option maxHeartbeats 4000000 in
theorem a_lop (v : Int) (hv : -9223372036854775808 ≤ v ∧ v ≤ 9223372036854775807) : AFn Try.prog 29 [intA v] (lawOp v).av := by
  refine AFn_intro Try.func29 rfl Try.ntmps29 rfl (by simp) [_] rfl fun E hE => ?_
  have h0 := Int.emod_nonneg v (show (1099511627776 : Int) ≠ 0 by omega)
  have h1 := Int.emod_lt_of_pos v (show (0 : Int) < 1099511627776 by omega)
  have c1 := a_lplace v 1099511627776 (by omega) (by omega) hv
  unfold lawOp
  dsimp only
  generalize v % 1099511627776 = k at h0 h1 c1 ⊢
  have d1 := acall Try.func11 (c1) (by decide +kernel) (by decide +kernel)
  have d3 := acall Try.func19 (a_lkey (k / 4) (by omega)) (by decide +kernel) (by decide +kernel)
  have d4 := acall Try.func27 (a_lval (k / 64) (by omega)) (by decide +kernel) (by decide +kernel)
  have d5 := acall Try.func18 (a_reftext (lawKey (k / 4))) (by decide +kernel) (by decide +kernel)
  have d6 := acall Try.func44 (a_refvtext (lawVl (k / 64))) (by decide +kernel) (by decide +kernel)
  have z1 := bytesOf_size (lawKey (k / 4)).txt
  have z2 := Key.txt_length (lawKey (k / 4))
  have z3 := bytesOf_size (lawVl (k / 64)).txt
  have z4 := Vl.txt_length (lawVl (k / 64))
  have z5 : nine.size = 9 := rfl
  have z6 : seventeen.size = 18 := rfl
  by_cases q0 : k % 4 = 0
  · have e1 : 1 + k % 4 = 1 := by omega
    have e3 : ¬ 1 + k % 4 = 3 := by omega
    rw [if_pos q0, if_neg (show ¬ k % 4 = 2 by omega)]
    by_cases q7 : k / 8 % 64 = 7
    · have q9 : ¬ k / 8 % 64 = 9 := by omega
      rw [if_pos q7, if_neg q9]
      refine wR ?_
      exact fin ⟨res_var rfl rfl rfl rfl, trivial⟩
    · rw [if_neg q7]
      by_cases q9 : k / 8 % 64 = 9
      · rw [if_pos q9]
        refine wR ?_
        exact fin ⟨res_var rfl rfl rfl rfl, trivial⟩
      · rw [if_neg q9]
        refine wR ?_
        exact fin ⟨res_var rfl rfl rfl rfl, trivial⟩
  have e1 : ¬ 1 + k % 4 = 1 := by omega
  rw [if_neg q0]
  by_cases q2 : k % 4 = 2
  · have e3 : 1 + k % 4 = 3 := by omega
    rw [if_pos q2]
    by_cases q7 : k / 8 % 64 = 7
    · have q9 : ¬ k / 8 % 64 = 9 := by omega
      rw [if_pos q7]
      refine wR ?_
      exact fin ⟨res_var rfl rfl rfl rfl, trivial⟩
    · rw [if_neg q7]
      by_cases q9 : k / 8 % 64 = 9
      · refine wR ?_
        exact fin ⟨res_var rfl rfl rfl rfl, trivial⟩
      · refine wR ?_
        exact fin ⟨res_var rfl rfl rfl rfl, trivial⟩
  have e3 : ¬ 1 + k % 4 = 3 := by omega
  rw [if_neg q2]
  by_cases q7 : k / 8 % 64 = 7
  · have q9 : ¬ k / 8 % 64 = 9 := by omega
    rw [if_pos q7]
    refine wR ?_
    exact fin ⟨res_var rfl rfl rfl rfl, trivial⟩
  rw [if_neg q7]
  by_cases q9 : k / 8 % 64 = 9
  · refine wR ?_
    exact fin ⟨res_var rfl rfl rfl rfl, trivial⟩
  · refine wR ?_
    exact fin ⟨res_var rfl rfl rfl rfl, trivial⟩
end Go.Proofs.Ytofcabhahdecdaa

namespace Go.Proofs.Ytofcabhahdecdaa
open Go Go.RowKit
set_option linter.unusedVariables false
set_option linter.unusedSimpArgs false
set_option maxRecDepth 100000

theorem kids_no (ks : List Int) (cs : List Key) (cmp : Key → Key → Int) (j : Nat) (h : j < ks.length) (hJ : kidsFrom ks 0 ks = kidsFrom ks j (ks.drop j)) (e : ks[j] < 1 ∨ 256 ≤ ks[j] ∨ idxOf ks ks[j] ≠ (j : Int)) : fanOkBy cmp ks cs = false := by
  unfold fanOkBy
  rw [hJ, kidsFrom_step ks ks j h]
  rcases e with e | e | e
  · rw [show decide (1 ≤ ks[j]) = false from decide_eq_false (by omega)]; simp
  · rw [show decide (ks[j] < 256) = false from decide_eq_false (by omega)]; simp
  · rw [show decide (idxOf ks ks[j] = (j : Int)) = false from decide_eq_false e]; simp
theorem kids_on (ks : List Int) (j : Nat) (h : j < ks.length) (hJ : kidsFrom ks 0 ks = kidsFrom ks j (ks.drop j)) (e1 : ¬ ks[j] < 1) (e2 : ¬ 256 ≤ ks[j]) (e3 : idxOf ks ks[j] = (j : Int)) : kidsFrom ks 0 ks = kidsFrom ks (j + 1) (ks.drop (j + 1)) := by
  rw [hJ, kidsFrom_step ks ks j h, show decide (1 ≤ ks[j]) = true from decide_eq_true (by omega), show decide (ks[j] < 256) = true from decide_eq_true (by omega), show decide (idxOf ks ks[j] = (j : Int)) = true from decide_eq_true e3]
  simp
theorem fan_no (ks : List Int) (cs : List Key) (cmp : Key → Key → Int) (e : ks.length < 2 ∨ 4 < ks.length ∨ cs.length + 1 ≠ ks.length) : fanOkBy cmp ks cs = false := by
  unfold fanOkBy
  rcases e with e | e | e
  · rw [show decide (2 ≤ ks.length) = false from decide_eq_false (by omega)]; simp
  · rw [show decide (ks.length ≤ 4) = false from decide_eq_false (by omega)]; simp
  · rw [show decide (cs.length + 1 = ks.length) = false from decide_eq_false e]; simp
theorem fan_on (ks : List Int) (cs : List Key) (cmp : Key → Key → Int) (h2 : 2 ≤ ks.length) (h4 : ks.length ≤ 4) (hc : cs.length + 1 = ks.length) (hk : kidsFrom ks 0 ks = true) : fanOkBy cmp ks cs = risesBy cmp none cs := by
  unfold fanOkBy
  rw [decide_eq_true h2, decide_eq_true h4, decide_eq_true hc, hk]; simp
theorem rise_no0 (cmp : Key → Key → Int) (cs : List Key) (j : Nat) (h : j < cs.length) (hJ : risesBy cmp none cs = risesBy cmp (ahead cs j) (cs.drop j)) (e : cs[j].ok = false) : risesBy cmp none cs = false := by
  cases j with
  | zero => rw [hJ, risesBy_step0 cmp cs h, e]; rfl
  | succ m => rw [hJ, risesBy_step cmp cs m h, e]; rfl
theorem rise_no1 (cmp : Key → Key → Int) (cs : List Key) (m : Nat) (h : m + 1 < cs.length) (hJ : risesBy cmp none cs = risesBy cmp (ahead cs (m + 1)) (cs.drop (m + 1))) (e : 0 ≤ cmp cs[m] cs[m + 1]) : risesBy cmp none cs = false := by
  rw [hJ, risesBy_step cmp cs m h, show decide (cmp cs[m] cs[m + 1] < 0) = false from decide_eq_false (by omega)]; simp
theorem rise_on0 (cmp : Key → Key → Int) (cs : List Key) (h : 0 < cs.length) (hJ : risesBy cmp none cs = risesBy cmp (ahead cs 0) (cs.drop 0)) (e : cs[0].ok = true) : risesBy cmp none cs = risesBy cmp (ahead cs 1) (cs.drop 1) := by
  rw [hJ, risesBy_step0 cmp cs h, e]; simp
theorem rise_on1 (cmp : Key → Key → Int) (cs : List Key) (m : Nat) (h : m + 1 < cs.length) (hJ : risesBy cmp none cs = risesBy cmp (ahead cs (m + 1)) (cs.drop (m + 1))) (e : cs[m + 1].ok = true) (c : ¬ 0 ≤ cmp cs[m] cs[m + 1]) : risesBy cmp none cs = risesBy cmp (ahead cs (m + 2)) (cs.drop (m + 2)) := by
  rw [hJ, risesBy_step cmp cs m h, e, show decide (cmp cs[m] cs[m + 1] < 0) = true from decide_eq_true (by omega)]; simp
attribute [local irreducible] OpOK AWops AW CondB Go2 AFn thenA inBlockA noGotoA orderOk wantedA
end Go.Proofs.Ytofcabhahdecdaa

namespace Go.Proofs.Ytofcabhahdecdaa
open Go Go.RowKit
set_option linter.unusedVariables false
set_option linter.unusedSimpArgs false
set_option maxRecDepth 100000

theorem flat_take {α : Type} (l : List (List α)) (j : Nat) (h : j < l.length) : (l.take (j + 1)).flatten = (l.take j).flatten ++ l[j] := by
  rw [List.take_succ_eq_append_getElem h, List.flatten_append]; simp
theorem flat_le {α : Type} (l : List (List α)) (j : Nat) : (l.take j).flatten.length ≤ l.flatten.length := by
  conv => rhs; rw [← List.take_append_drop j l, List.flatten_append, List.length_append]
  omega
def insKids (ks : List Int) (i : Nat) (id : Int) : List Int := ks.take (i + 1) ++ ([id] ++ ks.drop (i + 1))
def insCuts (cs : List Key) (at_ : Nat) (x : Key) : List Key := cs.take at_ ++ ([x] ++ cs.drop at_)
def fanIns (ks : List Int) (cs : List Key) (i : Int) (x : Key) (id : Int) : List Int × List Key :=
  if 0 ≤ i ∧ i < ks.length then (insKids ks i.toNat id, insCuts cs (min i.toNat cs.length) x) else (ks, cs)
attribute [local irreducible] OpOK AWops AW CondB Go2 AFn thenA inBlockA noGotoA orderOk wantedA
def fanHal (ks : List Int) (cs : List Key) : List Int × List Key × Key × List Int × List Key × Bool :=
  if ks.length = 4 ∧ cs.length = 3 then (ks.take 2, cs.take 1, cs.getD 1 Key.zero, ks.drop 2, cs.drop 2, true) else ([], [], Key.zero, [], [], false)
def fanHalA (h : List Int × List Key × Key × List Int × List Key × Bool) : AV := .tup [intsA h.1, keysA h.2.1, h.2.2.1.av, intsA h.2.2.2.1, keysA h.2.2.2.2.1, boolA h.2.2.2.2.2]
end Go.Proofs.Ytofcabhahdecdaa

namespace Go.Proofs.Ytofcabhahdecdaa
open Go Go.RowKit
set_option linter.unusedVariables false
set_option linter.unusedSimpArgs false
set_option maxRecDepth 100000

/-- the first j kids, with one more behind place i -/
def insK (ks : List Int) (i id : Int) (j : Nat) : List Int := if 0 ≤ i ∧ i < j then ks.take (i.toNat + 1) ++ ([id] ++ (ks.take j).drop (i.toNat + 1)) else ks.take j
theorem insK_hit (ks : List Int) (i id : Int) (j : Nat) (h : j < ks.length) (e : (j : Int) = i) : insK ks i id (j + 1) = insK ks i id j ++ [ks[j]] ++ [id] := by
  subst e
  unfold insK
  rw [if_pos (by omega), if_neg (by omega), Int.toNat_natCast, List.drop_eq_nil_of_le (by simp; omega), List.take_succ_eq_append_getElem h]
  simp
theorem insK_miss (ks : List Int) (i id : Int) (j : Nat) (h : j < ks.length) (e : ¬ (j : Int) = i) : insK ks i id (j + 1) = insK ks i id j ++ [ks[j]] := by
  unfold insK
  by_cases c : 0 ≤ i ∧ i < j
  · rw [if_pos (by omega), if_pos c, List.take_succ_eq_append_getElem h, List.drop_append_of_le_length (by simp; omega)]
    simp
  · rw [if_neg (by omega), if_neg c, List.take_succ_eq_append_getElem h]
theorem insK_zero (ks : List Int) (i id : Int) : insK ks i id 0 = [] := by
  unfold insK; rw [if_neg (by omega)]; rfl
theorem insK_end (ks : List Int) (cs : List Key) (i id : Int) (x : Key) : insK ks i id ks.length = (fanIns ks cs i x id).1 := by
  unfold insK fanIns
  by_cases c : 0 ≤ i ∧ i < ks.length
  · rw [if_pos c, if_pos c]; simp [insKids]
  · rw [if_neg c, if_neg c]; simp
theorem insK_le (ks : List Int) (i id : Int) (j : Nat) : (insK ks i id j).length ≤ ks.length + 1 + ks.length := by
  unfold insK; split <;> simp <;> omega
/-- the first j pivots, with one more ahead of place i -/
def insC (cs : List Key) (m : Nat) (i : Int) (x : Key) (j : Nat) : List Key := if 0 ≤ i ∧ i < m ∧ i < j then cs.take i.toNat ++ ([x] ++ (cs.take j).drop i.toNat) else cs.take j
theorem insC_hit (cs : List Key) (m : Nat) (i : Int) (x : Key) (j : Nat) (h : j < cs.length) (e : (j : Int) = i) (hm : i < m) : insC cs m i x (j + 1) = insC cs m i x j ++ [x] ++ [cs[j]] := by
  subst e
  unfold insC
  rw [if_pos (by omega), if_neg (by omega), Int.toNat_natCast, List.take_succ_eq_append_getElem h, List.drop_append_of_le_length (by simp; omega), List.drop_eq_nil_of_le (by simp; omega)]
  simp
theorem insC_miss (cs : List Key) (m : Nat) (i : Int) (x : Key) (j : Nat) (h : j < cs.length) (e : ¬ ((j : Int) = i ∧ i < m)) : insC cs m i x (j + 1) = insC cs m i x j ++ [cs[j]] := by
  unfold insC
  by_cases c : 0 ≤ i ∧ i < m ∧ i < j
  · rw [if_pos (by omega), if_pos c, List.take_succ_eq_append_getElem h, List.drop_append_of_le_length (by simp; omega)]
    simp
  · rw [if_neg (by omega), if_neg c, List.take_succ_eq_append_getElem h]
theorem insC_zero (cs : List Key) (m : Nat) (i : Int) (x : Key) : insC cs m i x 0 = [] := by
  unfold insC; rw [if_neg (by omega)]; rfl
theorem insC_last (ks : List Int) (cs : List Key) (i id : Int) (x : Key) (e : i = cs.length) (hm : i < ks.length) : insC cs ks.length i x cs.length ++ [x] = (fanIns ks cs i x id).2 := by
  subst e
  unfold insC fanIns
  rw [if_neg (by omega), if_pos (by omega)]
  simp [insCuts]
theorem insC_end (ks : List Int) (cs : List Key) (i id : Int) (x : Key) (hl : ks.length ≤ cs.length + 1) (e : ¬ (i = cs.length ∧ i < ks.length)) : insC cs ks.length i x cs.length = (fanIns ks cs i x id).2 := by
  unfold insC fanIns
  by_cases c : 0 ≤ i ∧ i < ks.length
  · rw [if_pos (by omega), if_pos c]
    have : min i.toNat cs.length = i.toNat := by omega
    simp [insCuts, this]
  · rw [if_neg (by omega), if_neg c]; simp
theorem insC_le (cs : List Key) (m : Nat) (i : Int) (x : Key) (j : Nat) : (insC cs m i x j).length ≤ cs.length + 1 + cs.length := by
  unfold insC; split <;> simp <;> omega
/-- the first places at which two rows are alike -/
theorem same_step {α : Type} [DecidableEq α] (a b : List α) (j : Nat) (h : j < a.length) (h' : j < b.length) (e : a[j] = b[j]) (k : a.take j = b.take j) : a.take (j + 1) = b.take (j + 1) := by
  rw [List.take_succ_eq_append_getElem h, List.take_succ_eq_append_getElem h', e, k]
theorem same_no {α : Type} [DecidableEq α] (a b : List α) (j : Nat) (h : j < a.length) (h' : j < b.length) (e : a[j] ≠ b[j]) : decide (a = b) = false := decide_eq_false fun k => e (by subst k; rfl)
attribute [local irreducible] OpOK AWops AW CondB Go2 AFn thenA inBlockA noGotoA orderOk wantedA
end Go.Proofs.Ytofcabhahdecdaa

namespace Go.Proofs.Ytofcabhahdecdaa
open Go Go.RowKit
set_option linter.unusedVariables false
set_option linter.unusedSimpArgs false
set_option maxRecDepth 100000

def lawRowsF (l : List Int) (j : Nat) : List Opn := (l.take j).map lawOp
def lawRows (l : List Int) : List Opn := lawRowsF l 100
theorem lawRowsF_snoc (l : List Int) (j : Nat) (h : j < l.length) : lawRowsF l (j + 1) = lawRowsF l j ++ [lawOp l[j]] := by
  unfold lawRowsF
  rw [← List.take_append_getElem h, List.map_append]
  rfl
theorem lawRowsF_end (l : List Int) (j : Nat) (h : j = 100 ∨ (j = l.length ∧ j ≤ 100)) : lawRowsF l j = lawRows l := by
  unfold lawRows lawRowsF
  rcases h with h | ⟨h1, h2⟩
  · rw [h]
  · subst h1; rw [List.take_of_length_le (Nat.le_refl _), List.take_of_length_le h2]
theorem lawRowsF_len (l : List Int) (j : Nat) : (lawRowsF l j).length ≤ j := by unfold lawRowsF; simp; omega
theorem lawRows_len (l : List Int) : (lawRows l).length ≤ 100 := lawRowsF_len l 100
attribute [local irreducible] OpOK AWops AW CondB Go2 AFn thenA inBlockA noGotoA orderOk wantedA
set_option maxRecDepth 100000 in
set_option maxHeartbeats 4000000 in
theorem a_rows (l : List Int) (hb : ∀ n ∈ l, -9223372036854775808 ≤ n ∧ n ≤ 9223372036854775807) : AFn Try.prog 10 [intsA l] (opsA (lawRows l)) := by
  refine AFn_intro Try.func10 rfl Try.ntmps10 rfl (by simp) [_] rfl fun E hE => ?_
  refine wR ?_
  refine AW_go (Go2.token 3 30 3 37 rfl rfl) ?_
  refine AW_loopI (fun j : Nat => ⟨[(0, intsA l), (3, .sl (some 30) 4 ((lawRowsF l j).map Opn.av)), (4, intA j)], [(30, .tail 37 4 (lawRowsF l j).length)]⟩) (fun j => j ≤ l.length ∧ j ≤ 100) (fun j => l.length - j) 0 ⟨Nat.zero_le _, Nat.zero_le _⟩ (by (refine Go2.sub ⟨?_, ?_, ?_⟩ <;> repeat' (first | exact True.intro | rfl | apply And.intro))) (fun j hj => ?_)
  obtain ⟨hj, hj2⟩ := hj
  have hlen := lawRowsF_len l j
  by_cases hlt : j < l.length
  · have hlt' : (j : Int) < (l.length : Nat) := by omega
    by_cases h100 : j < 100
    · have h100' : (j : Int) < 100 := by omega
      have c1 := a_lop l[j] (hb _ (List.getElem_mem hlt))
      have d1 := acall Try.func29 (c1) (by decide +kernel) (by decide +kernel)
      have hs := lawRowsF_snoc l j hlt
      refine wR ?_
      refine ⟨j + 1, ⟨hlt, by omega⟩, by omega, ?_⟩
      rw [hs]
      (refine Go2.sub ⟨?_, ?_, ?_⟩ <;> repeat' (first | exact True.intro | rfl | apply And.intro))
    · have h100' : ¬ (j : Int) < 100 := by omega
      rw [← lawRowsF_end l j (.inl (by omega))]
      refine wR ?_
      exact fin ⟨res_sl rfl, trivial⟩
  · have hlt' : ¬ (j : Int) < (l.length : Nat) := by omega
    rw [← lawRowsF_end l j (.inr ⟨by omega, hj2⟩)]
    refine wR ?_
    exact fin ⟨res_sl rfl, trivial⟩
set_option maxRecDepth 100000 in
set_option maxHeartbeats 4000000 in
theorem a_refrun24 (l : List Ent) (ops : List Opn) (h : Lf l) (hl : l.length ≤ 100000000) (ho : ops.length ≤ 100000000) : AFn Try.prog 21 [entsA l, opsA ops] (.tup [entsA (mdRun l ops).1, ansA (mdRun l ops).2]) := by
  refine AFn_intro Try.func21 rfl Try.ntmps21 rfl (by simp) [_, _] rfl fun E hE => ?_
  refine wM ?_
  refine AW_go (Go2.token 6 30 18 43 rfl rfl) ?_
  refine AW_loopI (fun j : Nat => ⟨[(0, entsA (mdF l ops j).1), (1, opsA ops), (6, .sl (some 30) 19 ((mdF l ops j).2.map Ans.av)), (7, intA j)], [(30, .tail 43 19 (mdF l ops j).2.length)]⟩) (fun j => j ≤ ops.length) (fun j => ops.length - j) 0 (Nat.zero_le _) (by (refine Go2.sub ⟨?_, ?_, ?_⟩ <;> repeat' (first | exact True.intro | rfl | apply And.intro))) (fun j hj => ?_)
  have hlf := mdF_lf h ops j
  obtain ⟨hb1, hb2⟩ := mdF_len l ops j
  by_cases hlt : j < ops.length
  · have hs := mdF_snoc l ops j hlt
    have c1 := a_refdo (mdF l ops j).1 ops[j] hlf (by omega)
    have d1 := acall Try.func22 (c1) (by decide +kernel) (by decide +kernel)
    have hlt' : (j : Int) < (ops.length : Nat) := by omega
    refine wM ?_
    refine ⟨j + 1, by omega, by omega, ?_⟩
    rw [hs]
    (refine Go2.sub ⟨?_, ?_, ?_⟩ <;> repeat' (first | exact True.intro | rfl | apply And.intro))
  · obtain rfl : j = ops.length := by omega
    have hlt' : ¬ (ops.length : Int) < (ops.length : Nat) := by omega
    rw [mdF_end]
    refine wM ?_
    exact fin ⟨res_sl rfl, res_sl rfl, trivial⟩
set_option maxRecDepth 100000 in
set_option maxHeartbeats 4000000 in
theorem a_sameAns (a b : List Ans) (h1 : a.length ≤ 1000000000) : AFn Try.prog 14 [ansA a, ansA b] (boolA (decide (a = b))) := by
  refine AFn_intro Try.func14 rfl Try.ntmps14 rfl (by simp) [_] rfl fun E hE => ?_
  by_cases hl : a.length = b.length
  · refine wM ?_
    refine AW_loopI (fun j : Nat => ⟨[(0, ansA a), (1, ansA b), (5, intA j)], []⟩) (fun j => j ≤ a.length ∧ a.take j = b.take j) (fun j => a.length - j) 0 ⟨Nat.zero_le _, rfl⟩ (by (refine Go2.sub ⟨?_, ?_, ?_⟩ <;> repeat' (first | exact True.intro | rfl | apply And.intro))) (fun j hj => ?_)
    obtain ⟨hj, hJ⟩ := hj
    by_cases hlt : j < a.length
    · have hlt' : j < b.length := by omega
      by_cases h : a[j] = b[j]
      · have h' : ¬ a[j] ≠ b[j] := fun k => k h
        refine wM ?_
        refine ⟨j + 1, ⟨hlt, same_step a b j hlt hlt' h hJ⟩, by omega, ?_⟩
        (refine Go2.sub ⟨?_, ?_, ?_⟩ <;> repeat' (first | exact True.intro | rfl | apply And.intro))
      · have h' : a[j] ≠ b[j] := h
        rw [same_no a b j hlt hlt' h]
        refine wM ?_
        exact fin ⟨res_of rfl rfl rfl, trivial⟩
    · have : j = a.length := by omega
      subst this
      rw [List.take_length, hl, List.take_length] at hJ
      rw [decide_eq_true hJ]
      refine wM ?_
      exact fin ⟨res_of rfl rfl rfl, trivial⟩
  · rw [show decide (a = b) = false from decide_eq_false fun k => hl (by rw [k])]
    refine wM ?_
    exact fin ⟨res_of rfl rfl rfl, trivial⟩
set_option maxRecDepth 100000 in
set_option maxHeartbeats 4000000 in
theorem m_eqEnts (a b : List Ent) (h1 : a.length ≤ 1000000000) : AFn Try.prog 31 [entsA a, entsA b] (boolA (decide (a = b))) := by
  refine AFn_intro Try.func31 rfl Try.ntmps31 rfl (by simp) [_] rfl fun E hE => ?_
  by_cases hl : a.length = b.length
  · refine wL ?_
    refine AW_loopI (fun j : Nat => ⟨[(0, entsA a), (1, entsA b), (12, intA a.length), (13, intA j)], []⟩) (fun j => j ≤ a.length ∧ a.take j = b.take j) (fun j => a.length - j) 0 ⟨Nat.zero_le _, rfl⟩ (by (refine Go2.sub ⟨?_, ?_, ?_⟩ <;> repeat' (first | exact True.intro | rfl | apply And.intro))) (fun j hj => ?_)
    obtain ⟨hj, hJ⟩ := hj
    by_cases hlt : j < a.length
    · have hlt' : j < b.length := by omega
      by_cases h : a[j] = b[j]
      · have h' : ¬ a[j] ≠ b[j] := fun k => k h
        refine wL ?_
        refine ⟨j + 1, ⟨hlt, same_step a b j hlt hlt' h hJ⟩, by omega, ?_⟩
        (refine Go2.sub ⟨?_, ?_, ?_⟩ <;> repeat' (first | exact True.intro | rfl | apply And.intro))
      · have h' : a[j] ≠ b[j] := h
        rw [same_no a b j hlt hlt' h]
        refine wL ?_
        exact fin ⟨res_of rfl rfl rfl, trivial⟩
    · have : j = a.length := by omega
      subst this
      rw [List.take_length, hl, List.take_length] at hJ
      rw [decide_eq_true hJ]
      refine wL ?_
      exact fin ⟨res_of rfl rfl rfl, trivial⟩
  · rw [show decide (a = b) = false from decide_eq_false fun k => hl (by rw [k])]
    refine wL ?_
    exact fin ⟨res_of rfl rfl rfl, trivial⟩
set_option maxRecDepth 100000 in
set_option maxHeartbeats 4000000 in
theorem m_sameEnts (a b : List Ent) (h1 : a.length ≤ 1000000000) : AFn Try.prog 25 [entsA a, entsA b] (boolA (decide (a = b))) := by
  refine AFn_intro Try.func25 rfl Try.ntmps25 rfl (by simp) [_] rfl fun E hE => ?_
  by_cases hl : a.length = b.length
  · refine wL ?_
    refine AW_loopI (fun j : Nat => ⟨[(0, entsA a), (1, entsA b), (5, intA j)], []⟩) (fun j => j ≤ a.length ∧ a.take j = b.take j) (fun j => a.length - j) 0 ⟨Nat.zero_le _, rfl⟩ (by (refine Go2.sub ⟨?_, ?_, ?_⟩ <;> repeat' (first | exact True.intro | rfl | apply And.intro))) (fun j hj => ?_)
    obtain ⟨hj, hJ⟩ := hj
    by_cases hlt : j < a.length
    · have hlt' : j < b.length := by omega
      by_cases h : a[j] = b[j]
      · have h' : ¬ a[j] ≠ b[j] := fun k => k h
        refine wL ?_
        refine ⟨j + 1, ⟨hlt, same_step a b j hlt hlt' h hJ⟩, by omega, ?_⟩
        (refine Go2.sub ⟨?_, ?_, ?_⟩ <;> repeat' (first | exact True.intro | rfl | apply And.intro))
      · have h' : a[j] ≠ b[j] := h
        rw [same_no a b j hlt hlt' h]
        refine wL ?_
        exact fin ⟨res_of rfl rfl rfl, trivial⟩
    · have : j = a.length := by omega
      subst this
      rw [List.take_length, hl, List.take_length] at hJ
      rw [decide_eq_true hJ]
      refine wL ?_
      exact fin ⟨res_of rfl rfl rfl, trivial⟩
  · rw [show decide (a = b) = false from decide_eq_false fun k => hl (by rw [k])]
    refine wL ?_
    exact fin ⟨res_of rfl rfl rfl, trivial⟩
set_option maxRecDepth 100000 in
set_option maxHeartbeats 4000000 in
theorem a_msame (a b : List Ent) (h1 : a.length ≤ 1000000000) : AFn Try.prog 13 [entsA a, entsA b] (boolA (decide (a = b))) := by
  refine AFn_intro Try.func13 rfl Try.ntmps13 rfl (by simp) [_] rfl fun E hE => ?_
  have d1 := acall Try.func31 (m_eqEnts a b h1) (by decide +kernel) (by decide +kernel)
  refine wL ?_
  exact fin ⟨res_of rfl rfl rfl, trivial⟩
end Go.Proofs.Ytofcabhahdecdaa

namespace Go.Proofs.Ytofcabhahdecdaa
open Go Go.RowKit
set_option linter.unusedVariables false
set_option linter.unusedSimpArgs false
set_option maxRecDepth 100000

theorem set_one (k : Key) (v : Vl) (o : Option Vl) : lfSet [⟨k, v⟩] k o = newE k o := by simp [lfSet]
theorem set_none (k : Key) (o : Option Vl) : lfSet [] k o = newE k o := by simp [lfSet]
theorem get_one (k : Key) (v : Vl) : lfGet k [⟨k, v⟩] = some v := by simp [lfGet]
theorem get_zero (k : Key) : lfGet k [] = none := rfl
theorem do_put0 (s t : ByteArray) (hs : s.size ≤ 8) (ht : t.size ≤ 16) : mdDo [] ⟨1, s, t, 0#64⟩ = ([⟨(keyOf s).1, (vlOf t).1⟩], ⟨0, false, Vl.zero⟩) := by
  unfold mdDo large
  rw [if_neg (by simp; omega), if_neg (by simp), if_neg (by simp)]
  unfold lfPut msgOf
  simp only [set_none, get_zero, ap, if_true, newE]
theorem do_add1 (s t : ByteArray) (v : Vl) (n : BitVec 64) (hs : s.size ≤ 8) : mdDo [⟨(keyOf s).1, v⟩] ⟨3, s, t, n⟩ = ([⟨(keyOf s).1, vplus v n⟩], ⟨0, false, Vl.zero⟩) := by
  unfold mdDo large
  rw [if_neg (by simp; omega), if_neg (by simp), if_neg (by simp)]
  unfold lfPut msgOf
  simp only [set_one, get_one, ap]
  rfl
theorem do_get1 (s t : ByteArray) (v : Vl) (n : BitVec 64) (hs : s.size ≤ 8) : mdDo [⟨(keyOf s).1, v⟩] ⟨4, s, t, n⟩ = ([⟨(keyOf s).1, v⟩], ⟨0, true, v⟩) := by
  unfold mdDo large
  rw [if_neg (by simp; omega), if_pos rfl]
  simp only [get_one, opA]
theorem do_del1 (s t : ByteArray) (v : Vl) (n : BitVec 64) (hs : s.size ≤ 8) : mdDo [⟨(keyOf s).1, v⟩] ⟨2, s, t, n⟩ = ([], ⟨0, false, Vl.zero⟩) := by
  unfold mdDo large
  rw [if_neg (by simp; omega), if_neg (by simp), if_neg (by simp)]
  unfold lfPut msgOf
  simp only [set_one, ap]
  rfl
theorem do_nine : mdDo [] ⟨9, .empty, .empty, 0#64⟩ = ([], ⟨1, false, Vl.zero⟩) := by
  unfold mdDo large
  rw [if_neg (by decide), if_neg (by simp), if_pos (by simp)]
theorem do_large (s : ByteArray) (hs : 8 < s.size) (o : Opn) (ho : o.key = s) : mdDo [] o = ([], ⟨2, false, Vl.zero⟩) := by
  unfold mdDo large
  rw [if_pos (by simp [ho, hs])]
def sA : ByteArray := { data := #[97] }
def s1 : ByteArray := { data := #[49] }
def awOps : List Opn := [⟨1, sA, s1, 0#64⟩, ⟨3, sA, .empty, 1#64⟩, ⟨4, sA, .empty, 0#64⟩, ⟨2, sA, .empty, 0#64⟩, ⟨9, .empty, .empty, 0#64⟩]
def awV : Vl := vplus (vlOf s1).1 1#64
theorem aw_run : mdRun [] awOps = ([], [⟨0, false, Vl.zero⟩, ⟨0, false, Vl.zero⟩, ⟨0, true, awV⟩, ⟨0, false, Vl.zero⟩, ⟨1, false, Vl.zero⟩]) := by
  have h8 : sA.size ≤ 8 := by decide
  unfold mdRun awOps
  simp only [List.foldl_cons, List.foldl_nil, mdStep]
  rw [do_put0 sA s1 h8 (by decide)]
  simp only
  rw [do_add1 sA .empty _ _ h8]
  simp only
  rw [do_get1 sA .empty _ _ h8]
  simp only
  rw [do_del1 sA .empty _ _ h8]
  simp only
  rw [do_nine]
  rfl
theorem aw_num : numOf (vlOf s1).1 = 49#64 := by
  have : vlOf s1 = (mkVl [49#8], 0) := by
    unfold vlOf
    rw [if_pos (by decide)]
    rfl
  rw [this]
  decide
theorem awV_eq : awV = fromN 50#64 := by unfold awV vplus; rw [aw_num]; rfl
theorem awV_n : awV.n = 8 := by rw [awV_eq]; rfl
theorem awV_b : awV.b.toList[0]? = some 50#8 := by rw [awV_eq]; decide
attribute [local irreducible] OpOK AWops AW CondB Go2 AFn thenA inBlockA noGotoA orderOk wantedA
set_option maxRecDepth 100000 in
set_option maxHeartbeats 8000000 in
theorem a_awake24 : AFn Try.prog 15 [] (boolA true) := by
  refine AFn_intro Try.func15 rfl Try.ntmps15 rfl (by simp) [_] rfl fun E hE => ?_
  have c1 := a_mrun [] awOps lf_nil (by simp) (by unfold awOps; simp)
  rw [aw_run] at c1
  have c2 := a_mdo [] ⟨1, { data := #[110, 105, 110, 101, 98, 121, 116, 101, 115] }, .empty, 0#64⟩ lf_nil (by simp)
  rw [do_large _ (show 8 < ({ data := #[110, 105, 110, 101, 98, 121, 116, 101, 115] } : ByteArray).size by decide) _ rfl] at c2
  have c3 := a_msame [] [] (by simp)
  have hn := awV_n
  have hb := awV_b
  generalize awV = V at c1 hn hb
  have e1 : opsA awOps = .sl none 4 [⟨1, sA, s1, 0#64⟩ |> Opn.av, .agg 4 [intA 3, strA sA, strA .empty, .v (.int .u64 1)], ⟨4, sA, .empty, 0#64⟩ |> Opn.av, ⟨2, sA, .empty, 0#64⟩ |> Opn.av, ⟨9, .empty, .empty, 0#64⟩ |> Opn.av] := by
    unfold opsA awOps
    simp only [List.map_cons, List.map_nil]
    have : (⟨3, sA, .empty, 1#64⟩ : Opn).av = .agg 4 [intA 3, strA sA, strA .empty, .v (.int .u64 1)] := by
      unfold Opn.av u64A
      rw [show D64 1#64 = 1 from by rw [D64_def]; rfl]
    rw [this]
  rw [e1] at c1
  have k' : (!true) = false := rfl
  have k'' : (!false) = true := rfl
  refine wM ?_
  (apply Wv; (focus (apply o_call Try.func12 (c1) rfl (by decide +kernel) rfl rfl; (any_goals (intro _; (repeat (first | exact wkl0 | refine wkd rfl ?_ | refine wkt ?_ | refine wkn ?_)); done)); (any_goals rfl))); (focus (first | exact want_n | exact want_g rfl (by with_reducible rfl))))
  refine wM ?_
  (apply Wv; (focus (apply o_call Try.func16 (c2) rfl (by decide +kernel) rfl rfl; (any_goals (intro _; (repeat (first | exact wkl0 | refine wkd rfl ?_ | refine wkt ?_ | refine wkn ?_)); done)); (any_goals rfl))); (focus (first | exact want_n | exact want_g rfl (by with_reducible rfl))))
  have hb' : (V.b.toList.map byteA)[0]? = some (.v (.int .u8 50)) := by
    rw [List.getElem?_map, hb]
    simp only [Option.map_some, byteA, B8_def]
    rfl
  refine wM ?_
  (apply Wv; (focus (exact o_idxra rfl rfl rfl rfl rfl rfl hb')); (focus (first | exact want_n | exact want_g rfl (by with_reducible rfl))))
  refine wM ?_
  (apply Wv; (focus (apply o_call Try.func13 (c3) rfl (by decide +kernel) rfl rfl; (any_goals (intro _; (repeat (first | exact wkl0 | refine wkd rfl ?_ | refine wkt ?_ | refine wkn ?_)); done)); (any_goals rfl))); (focus (first | exact want_n | exact want_g rfl (by with_reducible rfl))))
  refine wM ?_
  exact fin ⟨res_yesm rfl rfl, trivial⟩
end Go.Proofs.Ytofcabhahdecdaa

namespace Go.Proofs.Ytofcabhahdecdaa
open Go Go.RowKit
set_option linter.unusedVariables false
set_option linter.unusedSimpArgs false
set_option maxRecDepth 100000

theorem mdRun_from (x : List Opn) : ∀ (s : List Ent × List Ans), x.foldl mdStep s = ((x.foldl mdStep (s.1, [])).1, s.2 ++ (x.foldl mdStep (s.1, [])).2) := by
  induction x with
  | nil => intro s; simp
  | cons o x ih =>
    intro s
    rw [List.foldl_cons, List.foldl_cons, ih (mdStep s o), ih (mdStep (s.1, []) o)]
    simp [mdStep]
theorem mdRun_append (l : List Ent) (x y : List Opn) : mdRun l (x ++ y) = ((mdRun (mdRun l x).1 y).1, (mdRun l x).2 ++ (mdRun (mdRun l x).1 y).2) := by
  unfold mdRun
  rw [List.foldl_append]
  exact mdRun_from y _
theorem mdRun_lf {l : List Ent} (h : Lf l) (ops : List Opn) : Lf (mdRun l ops).1 := by rw [← mdF_end]; exact mdF_lf h ops _
theorem mdRun_len (l : List Ent) (ops : List Opn) : (mdRun l ops).1.length ≤ l.length + ops.length ∧ (mdRun l ops).2.length ≤ ops.length := by rw [← mdF_end]; exact mdF_len l ops _
attribute [local irreducible] OpOK AWops AW CondB Go2 AFn thenA inBlockA noGotoA orderOk wantedA
set_option maxRecDepth 100000 in
set_option maxHeartbeats 8000000 in
theorem a_modelParts (e ops : List Int) (at0 : Int) (he : ∀ n ∈ e, -9223372036854775808 ≤ n ∧ n ≤ 9223372036854775807) (hops : ∀ n ∈ ops, -9223372036854775808 ≤ n ∧ n ≤ 9223372036854775807) (hat : -9223372036854775808 ≤ at0 ∧ at0 ≤ 9223372036854775807) :
    AFn Try.prog 3 [intsA e, intsA ops, intA at0] (boolA true) := by
  refine AFn_intro Try.func3 rfl Try.ntmps3 rfl (by simp) [_] rfl fun E hE => ?_
  have c1 := a_entries e 3000 he
  have hl := entList_lf e 3000
  have hll := entList_len e 3000
  generalize entList e 3000 = l at c1 hl hll
  have c2 := a_rows ops hops
  have hr := lawRows_len ops
  generalize lawRows ops = row at c2 hr
  have c3 := a_lplace at0 ((row.length : Int) + 1) (by omega) (by omega) hat
  obtain ⟨k, hk⟩ : ∃ k : Nat, at0 % ((row.length : Int) + 1) = (k : Int) := ⟨(at0 % ((row.length : Int) + 1)).toNat, by have := Int.emod_nonneg at0 (show (row.length : Int) + 1 ≠ 0 by omega); omega⟩
  have hkl : k ≤ row.length := by have := Int.emod_lt_of_pos at0 (show (0 : Int) < (row.length : Int) + 1 by omega); omega
  rw [hk] at c3
  have c4 := a_mrun l row hl (by omega) (by omega)
  have c5 := a_mrun l (row.take k) hl (by omega) (by rw [List.length_take]; omega)
  have hl2 := mdRun_lf hl (row.take k)
  have hl2l := (mdRun_len l (row.take k)).1
  rw [List.length_take] at hl2l
  have c6 := a_mrun (mdRun l (row.take k)).1 (row.drop k) hl2 (by omega) (by rw [List.length_drop]; omega)
  have happ := mdRun_append l (row.take k) (row.drop k)
  rw [List.take_append_drop] at happ
  have hr1 := mdRun_len l row
  have hr2 := (mdRun_len l (row.take k)).2
  rw [List.length_take] at hr2
  have hr3 := (mdRun_len (mdRun l (row.take k)).1 (row.drop k)).2
  rw [List.length_drop] at hr3
  generalize mdRun (mdRun l (row.take k)).1 (row.drop k) = R2 at c6 happ hr3
  generalize mdRun l (row.take k) = R1 at c5 c6 happ hr2
  generalize mdRun l row = R at c4 happ hr1
  subst happ
  simp only at hr1
  have c7 := a_msame R2.1 R2.1 (by omega)
  rw [decide_eq_true rfl] at c7
  have c8 := a_sameAns (R1.2 ++ R2.2) (R1.2 ++ R2.2) (by rw [List.length_append]; omega)
  rw [decide_eq_true rfl] at c8
  have d1 := acall Try.func9 (c1) (by decide +kernel) (by decide +kernel)
  have d2 := acall Try.func10 (c2) (by decide +kernel) (by decide +kernel)
  have d3 := acall Try.func11 (c3) (by decide +kernel) (by decide +kernel)
  have d4 := acall Try.func12 (c4) (by decide +kernel) (by decide +kernel)
  have d5 := acall Try.func12 (c5) (by decide +kernel) (by decide +kernel)
  have d6 := acall Try.func12 (c6) (by decide +kernel) (by decide +kernel)
  have d7 := acall Try.func13 (c7) (by decide +kernel) (by decide +kernel)
  have d8 := acall Try.func14 (c8) (by decide +kernel) (by decide +kernel)
  have d9 := acall Try.func15 (a_awake24) (by decide +kernel) (by decide +kernel)
  refine wM ?_
  exact fin ⟨res_of rfl rfl rfl, trivial⟩
set_option maxRecDepth 100000 in
set_option maxHeartbeats 8000000 in
theorem a_modelLarge (e : List Int) (key val : ByteArray) (kind : Int) (he : ∀ n ∈ e, -9223372036854775808 ≤ n ∧ n ≤ 9223372036854775807) :
    AFn Try.prog 4 [intsA e, strA key, strA val, intA kind] (boolA true) := by
  refine AFn_intro Try.func4 rfl Try.ntmps4 rfl (by simp) [_] rfl fun E hE => ?_
  have d9 := acall Try.func15 (a_awake24) (by decide +kernel) (by decide +kernel)
  by_cases k1 : 100 < key.size
  · have k1' : (100 : Int) < (key.size : Nat) := by omega
    refine wM ?_
    exact fin ⟨res_of rfl rfl rfl, trivial⟩
  have k1' : ¬ (100 : Int) < (key.size : Nat) := by omega
  by_cases k2 : 100 < val.size
  · have k2' : (100 : Int) < (val.size : Nat) := by omega
    refine wM ?_
    exact fin ⟨res_of rfl rfl rfl, trivial⟩
  have k2' : ¬ (100 : Int) < (val.size : Nat) := by omega
  have c1 := a_entries e 3000 he
  have hl := entList_lf e 3000
  have hll := entList_len e 3000
  generalize entList e 3000 = l at c1 hl hll
  have c2 := a_mdo l ⟨kind, key, val, 0#64⟩ hl (by omega)
  have c3 := a_ref23large ⟨kind, key, val, 0#64⟩
  have c4 := a_msame l l (by omega)
  rw [decide_eq_true rfl] at c4
  have d1 := acall Try.func9 (c1) (by decide +kernel) (by decide +kernel)
  have d4 := acall Try.func13 (c4) (by decide +kernel) (by decide +kernel)
  have k' : (!true) = false := rfl
  have k'' : (!false) = true := rfl
  by_cases q1 : 8 < key.size
  · have q1' : (8 : Int) < (key.size : Nat) := by omega
    have hL : large ⟨kind, key, val, 0#64⟩ = true := by unfold large; simp [q1]
    unfold mdDo at c2
    rw [hL] at c3
    rw [if_pos hL] at c2
    have d2 := acall Try.func16 (c2) (by decide +kernel) (by decide +kernel)
    have d3 := acall Try.func17 (c3) (by decide +kernel) (by decide +kernel)
    refine wM ?_
    exact fin ⟨res_of rfl rfl rfl, trivial⟩
  have q1' : ¬ (8 : Int) < (key.size : Nat) := by omega
  by_cases q2 : kind = 1
  · by_cases q3 : 16 < val.size
    · have q3' : (16 : Int) < (val.size : Nat) := by omega
      have hL : large ⟨kind, key, val, 0#64⟩ = true := by unfold large; simp [q2, q3]
      unfold mdDo at c2
      rw [hL] at c3
      rw [if_pos hL] at c2
      have d2 := acall Try.func16 (c2) (by decide +kernel) (by decide +kernel)
      have d3 := acall Try.func17 (c3) (by decide +kernel) (by decide +kernel)
      have f1 : decide ((2 : Int) = 2) = decide ((16 : Int) < (val.size : Nat)) := by rw [decide_eq_true q3']; rfl
      have f2 : decide ((16 : Int) < (val.size : Nat)) = true := decide_eq_true q3'
      have f4 : (!decide ((16 : Int) < (val.size : Nat))) = false := by rw [f2]; rfl
      refine wM ?_
      exact fin ⟨res_of rfl rfl rfl, trivial⟩
    · have q3' : ¬ (16 : Int) < (val.size : Nat) := by omega
      have q5 : ¬ kind < 1 := by omega
      have q6 : ¬ 4 < kind := by omega
      have hL : large ⟨kind, key, val, 0#64⟩ = false := by unfold large; simp [q1, q3]
      unfold mdDo at c2
      rw [hL] at c3
      rw [if_neg (by rw [hL]; simp), if_neg (show ¬ kind = 4 by omega), if_neg (show ¬ (kind < 1 ∨ 4 < kind) by omega)] at c2
      have d2 := acall Try.func16 (c2) (by decide +kernel) (by decide +kernel)
      have d3 := acall Try.func17 (c3) (by decide +kernel) (by decide +kernel)
      have f1 : decide ((0 : Int) = 2) = decide ((16 : Int) < (val.size : Nat)) := by rw [decide_eq_false q3']; rfl
      have f2 : decide ((16 : Int) < (val.size : Nat)) = false := decide_eq_false q3'
      have f4 : (!decide ((16 : Int) < (val.size : Nat))) = true := by rw [f2]; rfl
      have f5 : decide ((0 : Int) = 1) = decide (4 < kind) := by rw [decide_eq_false q6]; rfl
      refine wM ?_
      exact fin ⟨res_of rfl rfl rfl, trivial⟩
  have hL : large ⟨kind, key, val, 0#64⟩ = false := by unfold large; simp [q1, q2]
  unfold mdDo at c2
  rw [hL] at c3
  by_cases q4 : kind = 4
  · have q5 : ¬ kind < 1 := by omega
    have q6 : ¬ 4 < kind := by omega
    rw [if_neg (by rw [hL]; simp), if_pos q4] at c2
    have d2 := acall Try.func16 (c2) (by decide +kernel) (by decide +kernel)
    have d3 := acall Try.func17 (c3) (by decide +kernel) (by decide +kernel)
    have f1 : decide ((0 : Int) = 2) = decide (kind = 1) := by rw [decide_eq_false q2]; rfl
    have f2 : decide (kind = 1) = false := decide_eq_false q2
    have f4 : (!decide (kind = 1)) = true := by rw [f2]; rfl
    have f5 : decide ((0 : Int) = 1) = decide (4 < kind) := by rw [decide_eq_false q6]; rfl
    refine wM ?_
    exact fin ⟨res_of rfl rfl rfl, trivial⟩
  by_cases q5 : kind < 1
  · rw [if_neg (by rw [hL]; simp), if_neg q4, if_pos (.inl q5)] at c2
    have d2 := acall Try.func16 (c2) (by decide +kernel) (by decide +kernel)
    have d3 := acall Try.func17 (c3) (by decide +kernel) (by decide +kernel)
    have f1 : decide ((1 : Int) = 2) = decide (kind = 1) := by rw [decide_eq_false q2]; rfl
    have f2 : decide (kind = 1) = false := decide_eq_false q2
    have f4 : (!decide (kind = 1)) = true := by rw [f2]; rfl
    refine wM ?_
    exact fin ⟨res_of rfl rfl rfl, trivial⟩
  by_cases q6 : 4 < kind
  · rw [if_neg (by rw [hL]; simp), if_neg q4, if_pos (.inr q6)] at c2
    have d2 := acall Try.func16 (c2) (by decide +kernel) (by decide +kernel)
    have d3 := acall Try.func17 (c3) (by decide +kernel) (by decide +kernel)
    have f1 : decide ((1 : Int) = 2) = decide (kind = 1) := by rw [decide_eq_false q2]; rfl
    have f2 : decide (kind = 1) = false := decide_eq_false q2
    have f4 : (!decide (kind = 1)) = true := by rw [f2]; rfl
    have f5 : decide ((1 : Int) = 1) = decide (4 < kind) := by rw [decide_eq_true q6]; rfl
    refine wM ?_
    exact fin ⟨res_of rfl rfl rfl, trivial⟩
  rw [if_neg (by rw [hL]; simp), if_neg q4, if_neg (show ¬ (kind < 1 ∨ 4 < kind) by omega)] at c2
  have d2 := acall Try.func16 (c2) (by decide +kernel) (by decide +kernel)
  have d3 := acall Try.func17 (c3) (by decide +kernel) (by decide +kernel)
  have f1 : decide ((0 : Int) = 2) = decide (kind = 1) := by rw [decide_eq_false q2]; rfl
  have f2 : decide (kind = 1) = false := decide_eq_false q2
  have f4 : (!decide (kind = 1)) = true := by rw [f2]; rfl
  have f5 : decide ((0 : Int) = 1) = decide (4 < kind) := by rw [decide_eq_false q6]; rfl
  refine wM ?_
  exact fin ⟨res_of rfl rfl rfl, trivial⟩
theorem modelParts_walk (v0 : Value) (l0 : List (Int)) (v1 : Value) (l1 : List (Int)) (n2 : Int) (w : World) (s0 : Sl ie 1 w v0 l0) (g0 : ∀ n ∈ l0, -9223372036854775808 ≤ n ∧ n ≤ 9223372036854775807) (z0 : l0.length ≤ 17592186043904) (s1 : Sl ie 1 w v1 l1) (g1 : ∀ n ∈ l1, -9223372036854775808 ≤ n ∧ n ≤ 9223372036854775807) (z1 : l1.length ≤ 17592186043904) (b2 : -9223372036854775808 ≤ n2 ∧ n2 ≤ 9223372036854775807) :
    Calls Try.prog 3 #[v0, v1, .int .i64 n2] w (Is w (.bool true)) :=
  law_of (a_modelParts l0 l1 n2 g0 g1 b2) (rdp_cons rfl (ints_in s0) (rdp_cons rfl (ints_in s1) (rdp_cons rfl int_in rdp_nil')))
theorem modelLarge_walk (v0 : Value) (l0 : List (Int)) (t1 : ByteArray) (t2 : ByteArray) (n3 : Int) (w : World) (s0 : Sl ie 1 w v0 l0) (g0 : ∀ n ∈ l0, -9223372036854775808 ≤ n ∧ n ≤ 9223372036854775807) (z0 : l0.length ≤ 17592186043904) (z1 : t1.size ≤ maxLen) (z2 : t2.size ≤ maxLen) (b3 : -9223372036854775808 ≤ n3 ∧ n3 ≤ 9223372036854775807) :
    Calls Try.prog 4 #[v0, .string t1, .string t2, .int .i64 n3] w (Is w (.bool true)) :=
  law_of (a_modelLarge l0 t1 t2 n3 g0) (rdp_cons rfl (ints_in s0) (rdp_cons rfl (Rdv_v.2 ⟨rfl, rfl⟩) (rdp_cons rfl (Rdv_v.2 ⟨rfl, rfl⟩) (rdp_cons rfl int_in rdp_nil'))))
end Go.Proofs.Ytofcabhahdecdaa
