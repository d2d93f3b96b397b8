/-
  M5: several texts as one: Model4, AfnFan0, AfnFan, AfnRef8, Model5, Model6, LawModel1, StructIn, Model7, LawModel2, LeafCheck, OpIn, LawModel3. No condition beyond those that each theorem states.
-/
import Derived.Test.YtofcabhahdecdaaM4
import Derived.OpenShut
import Derived.Deep.Slices
import Derived.Deep.Strs
import Derived.WideShapes
namespace Go.Proofs.Ytofcabhahdecdaa
open Go Go.RowKit
set_option linter.unusedVariables false
set_option linter.unusedSimpArgs false
set_option maxRecDepth 100000

@[irreducible] def Vl.txt (k : Vl) : List (BitVec 8) := if k.ok then cut k.b k.n.toNat else []
theorem Vl.txt_ok {k : Vl} (h : k.ok = true) : k.txt = cut k.b k.n.toNat := by unfold Vl.txt; rw [if_pos h]
theorem Vl.txt_no {k : Vl} (h : k.ok = false) : k.txt = [] := by unfold Vl.txt; rw [if_neg (by rw [h]; simp)]
set_option maxRecDepth 100000 in
set_option maxHeartbeats 4000000 in
theorem reftext_any (k : Key) (w : World) : Calls Try.prog 18 #[.agg k.arr] w (Is w (.string (bytesOf k.txt))) := by
  cases hok : k.ok
  · have htx := Key.txt_no hok
    go_enter Try.func18, Try.ntmps18
    go_wp2_with fail
    refine (refkeycheck_any _ _).mono ?_
    rintro e w1 ⟨rfl, he1⟩
    go_wp2
    go_ret
    exact ⟨by rw [htx, bytesOf_nil]; rfl, (by repeat (first | exact Ext.refl _ | assumption | refine Ext.drew ?_ | refine Ext.drewN ?_ _ | refine Ext.alloc ?_ _ | refine Ext.trans ?_ (by assumption)))⟩
  · have htx := Key.txt_ok hok
    obtain ⟨h0, h8, -⟩ := (Key.ok_iff k).1 hok
    obtain ⟨kn, kb⟩ := k
    obtain ⟨n, rfl⟩ : ∃ n : Nat, kn = (n : Int) := ⟨kn.toNat, by simp at h0; omega⟩
    have hn8 : n ≤ 8 := by simp at h8; omega
    have hn8' : (n : Int) ≤ 8 := by omega
    have HT := Lib.hid htx
    clear htx
    go_enter Try.func18, Try.ntmps18
    go_wp2_with fail
    refine (refkeycheck_any _ _).mono ?_
    rintro e w1 ⟨rfl, he1⟩
    have hr : row? w1 w.heap.size 0 9 = some (Key.mk (n : Int) kb).arr := he1.row (by simp [go_sem])
    have hc := row_cell hr (j := 0) (by omega) (Key.arr_n _)
    have hs := sl_of_bArr (g := w.heap.size) (o := 1) (w := w1) (b := kb) (by rw [← Nat.zero_add 1, row_sub hr 1 8 (by omega)]; exact Key.row_b _) n 8 hn8 hn8 (by unfold maxLen; omega)
    have hcv := run_str_sl Try.underlying77 Try.underlying5 Try.underlying9 hs
    clear hs
    simp only [Nat.zero_add] at hc
    go_wp2
    go_ret
    exact ⟨by rw [HT.out]; rfl, (by repeat (first | exact Ext.refl _ | assumption | refine Ext.drew ?_ | refine Ext.drewN ?_ _ | refine Ext.alloc ?_ _ | refine Ext.trans ?_ (by assumption)))⟩
set_option maxRecDepth 100000 in
set_option maxHeartbeats 4000000 in
theorem refvtext_any (k : Vl) (w : World) : Calls Try.prog 44 #[.agg k.arr] w (Is w (.string (bytesOf k.txt))) := by
  cases hok : k.ok
  · have htx := Vl.txt_no hok
    go_enter Try.func44, Try.ntmps44
    go_wp2_with fail
    refine (refvlcheck_any _ _).mono ?_
    rintro e w1 ⟨rfl, he1⟩
    go_wp2
    go_ret
    exact ⟨by rw [htx, bytesOf_nil]; rfl, (by repeat (first | exact Ext.refl _ | assumption | refine Ext.drew ?_ | refine Ext.drewN ?_ _ | refine Ext.alloc ?_ _ | refine Ext.trans ?_ (by assumption)))⟩
  · have htx := Vl.txt_ok hok
    obtain ⟨h0, h8, -⟩ := (Vl.ok_iff k).1 hok
    obtain ⟨kn, kb⟩ := k
    obtain ⟨n, rfl⟩ : ∃ n : Nat, kn = (n : Int) := ⟨kn.toNat, by simp at h0; omega⟩
    have hn8 : n ≤ 16 := by simp at h8; omega
    have hn8' : (n : Int) ≤ 16 := by omega
    have HT := Lib.hid htx
    clear htx
    go_enter Try.func44, Try.ntmps44
    go_wp2_with fail
    refine (refvlcheck_any _ _).mono ?_
    rintro e w1 ⟨rfl, he1⟩
    have hr : row? w1 w.heap.size 0 17 = some (Vl.mk (n : Int) kb).arr := he1.row (by simp [go_sem])
    have hc := row_cell hr (j := 0) (by omega) (Vl.arr_n _)
    have hs := sl_of_bArr (g := w.heap.size) (o := 1) (w := w1) (b := kb) (by rw [← Nat.zero_add 1, row_sub hr 1 16 (by omega)]; exact Vl.row_b _) n 16 hn8 hn8 (by unfold maxLen; omega)
    have hcv := run_str_sl Try.underlying77 Try.underlying5 Try.underlying9 hs
    clear hs
    simp only [Nat.zero_add] at hc
    go_wp2
    go_ret
    exact ⟨by rw [HT.out]; rfl, (by repeat (first | exact Ext.refl _ | assumption | refine Ext.drew ?_ | refine Ext.drewN ?_ _ | refine Ext.alloc ?_ _ | refine Ext.trans ?_ (by assumption)))⟩
theorem a_reftext (k : Key) : AFn Try.prog 18 [k.av] (strA (bytesOf k.txt)) := fun U w vs h => by
  obtain ⟨v1, us, rfl, h1, h⟩ := rdp_one h
  obtain rfl := rdp_nil h
  rw [dKey.rdv.1 h1]
  exact ofIs (reftext_any k w) fun w' => Rdv_v.2 ⟨rfl, rfl⟩
theorem a_refvtext (k : Vl) : AFn Try.prog 44 [k.av] (strA (bytesOf k.txt)) := fun U w vs h => by
  obtain ⟨v1, us, rfl, h1, h⟩ := rdp_one h
  obtain rfl := rdp_nil h
  rw [dVl.rdv.1 h1]
  exact ofIs (refvtext_any k w) fun w' => Rdv_v.2 ⟨rfl, rfl⟩
section
variable {E : Env} {nt : Nat} {ops : Array Oper} {T : Nat → Option AV} {H : Hp} {d : Option Nat} {ty : TypeId} {pos : String} {af : Array Edge} {gd : Option (Nat × Bool)}
theorem o_catn {t t' : TypeId} {x y : Operand} {a b : ByteArray} (hd : dOk nt d = true) (hx : evalO T x = some (.v (.string a))) (hy : evalO T y = some (.v (.string b))) (hb : Nat.ble b.size 1000 = true) (ha : a.size ≤ 1000000) : OpOK Try.prog E nt ops ⟨d, .binOp .add t x y t', ty, pos, af, gd⟩ T H [] ⟨.v (.string (a ++ b)), []⟩ :=
  ok_bin hd hx hy (fun w => by
    have hb' := Nat.le_of_ble_eq_true hb
    have h' : ¬ ((a.size + b.size : Nat) : Int) > 9223372036854775807 := by omega
    have hm : IntKind.i64.max = 9223372036854775807 := by decide
    simp only [eqGuard, binOp, Op.stringOp, Sem.run_bind, hm, if_neg h']
    rfl) rfl
end
def nine : ByteArray := { data := #[49, 50, 51, 52, 53, 54, 55, 56, 57] }
def seventeen : ByteArray := { data := #[115, 101, 118, 101, 110, 116, 101, 101, 110, 32, 98, 121, 116, 101, 115, 32, 46, 46] }
/-- an operation by a number -/
def lawOp (v : Int) : Opn :=
  let k := v % 1099511627776
  ⟨1 + k % 4, if k / 8 % 64 = 7 then bytesOf (lawKey (k / 4)).txt ++ nine else bytesOf (lawKey (k / 4)).txt,
   if k % 4 = 0 then (if k / 8 % 64 = 9 then bytesOf (lawVl (k / 64)).txt ++ seventeen else bytesOf (lawVl (k / 64)).txt) else .empty,
   if k % 4 = 2 then BitVec.ofInt 64 (k / 4096) * 4099#64 else 0#64⟩
theorem Vl.txt_length (k : Vl) : k.txt.length ≤ 16 := by
  cases h : k.ok
  · rw [Vl.txt_no h]; simp
  · rw [Vl.txt_ok h]; unfold cut; simp; omega
theorem wR {Q R : Prop} (k : R) (h : Hid R → Q := by intro kHid; (repeat (first | (first | refine Wend _ ?_ | refine AW_seq ?_ | refine AW_reg ?_ | refine AW_drw mixed ?_ | refine AW_block ?_ | refine AW_scope ?_ | refine thenA_n ?_ | refine blockA_n ?_ | refine blockA_h ?_ | refine scopeA_n ?_ | refine thenA_r ?_ | refine blockA_r ?_ | refine scopeA_r ?_ | refine thenA_e ?_ | refine scopeA_e ?_ | refine blockA_e rfl ?_ | refine AW_exit ?_ | refine AW_ret ?_ | refine AW_skip ?_ | refine AW_c rfl ?_ | with_reducible refine cb_t ?_ | with_reducible refine cb_f ?_ | with_reducible refine cb_yes (by first | assumption | omega) ?_ | with_reducible refine cb_no (by first | assumption | omega) ?_ | refine And.intro (by decide +kernel) ?_) | (first | (apply Wv; (focus (first | exact step_ok rfl rfl | exact o_idx rfl rfl rfl rfl (by first | assumption | omega | decide) | exact o_idx3 rfl rfl rfl rfl (by first | assumption | omega | decide) | exact o_idx2 rfl rfl rfl rfl rfl (by first | assumption | omega | decide) | exact o_idxr rfl rfl rfl rfl rfl rfl | exact o_lenm rfl rfl rfl | exact o_len rfl rfl rfl | exact o_len0 rfl rfl rfl | exact o_lens rfl rfl rfl | exact o_lent rfl rfl | exact o_add1 rfl rfl rfl (by omega) | exact o_addn rfl rfl rfl (by omega) | exact o_add rfl rfl rfl (by omega) | exact o_sub1 rfl rfl rfl (by omega) | exact o_sub rfl rfl rfl (by omega) | exact o_mul rfl rfl rfl (by omega) | exact o_rem rfl rfl rfl (by omega) | exact ok_rem rfl rfl rfl (by decide) rfl | exact o_eqKey rfl rfl rfl | exact o_neKey rfl rfl rfl | exact o_eqVl rfl rfl rfl | exact o_neVl rfl rfl rfl | exact o_eqEnt rfl rfl rfl | exact o_neEnt rfl rfl rfl | exact o_eqMsg rfl rfl rfl | exact o_neMsg rfl rfl rfl | exact o_acall rfl rfl rfl rfl (by assumption) | exact o_minn rfl rfl rfl | exact o_cutl rfl rfl rfl rfl (by omega) | exact o_cuth rfl rfl rfl rfl (by omega) | exact o_cutl3 rfl rfl rfl rfl (by omega) | exact o_cuth3 rfl rfl rfl rfl (by omega) | exact o_cutl2 rfl rfl rfl rfl rfl (by omega) | exact o_cuth2 rfl rfl rfl rfl rfl (by omega) | exact o_cutlh2 rfl rfl rfl rfl rfl rfl rfl (by omega) (by omega) | exact o_bld zero_Opn rfl rfl rfl rfl rfl rfl rfl | exact o_bld zero_Ans rfl rfl rfl rfl rfl rfl rfl | exact o_eqAns rfl rfl rfl | exact o_neAns rfl rfl rfl | exact o_catn rfl rfl rfl rfl (by omega) | exact e_bld rfl rfl rfl | exact e_bldk rfl rfl | exact z_bld0 rfl rfl rfl rfl rfl | exact z_bld rfl rfl rfl rfl rfl rfl rfl | exact o_addu rfl rfl rfl | exact o_mulu rfl rfl rfl (by decide) | exact o_convb ⟨_, Try.underlying3⟩ Try.underlying5 rfl rfl | exact o_convu ⟨_, Try.underlying3⟩ Try.underlying35 rfl rfl | exact o_convs Try.underlying77 Try.underlying5 Try.underlying9 rfl rfl | exact o_idxs rfl rfl rfl rfl (by first | assumption | omega) | exact z_blda rfl rfl rfl rfl rfl rfl rfl rfl rfl | exact o_idxa rfl rfl rfl rfl rfl rfl | exact o_idxra rfl rfl rfl rfl rfl rfl rfl | exact o_quo2 rfl rfl rfl (by omega) | exact o_quo rfl rfl rfl (by omega))); (focus (first | exact want_n | exact want_g rfl (by with_reducible rfl)))) | (apply Wb; (focus (first | exact o_box rfl rfl rfl rfl | exact o_app rfl rfl rfl rfl rfl (by first | exact o_many rfl | exact o_one _ _ rfl) (by first | omega | (simp; omega) | simp) (by first | omega | (simp; omega) | simp) | exact o_appn rfl rfl rfl rfl rfl (by first | exact o_many rfl | exact o_one _ _ rfl) (by first | omega | (simp; omega) | simp) (by first | omega | (simp; omega) | simp) | exact o_app1 rfl rfl rfl rfl rfl (by first | exact o_many rfl | exact o_one _ _ rfl) (by exact rfl) (by first | omega | (simp; omega) | simp) (by first | omega | (simp; omega) | simp) | exact o_app0 rfl rfl rfl rfl rfl (by first | exact o_many rfl | exact o_one _ _ rfl) (by first | omega | (simp; omega) | simp) (by first | omega | (simp; omega) | simp) | exact o_bsl0 rfl rfl rfl | exact z_bsll rfl rfl rfl rfl rfl rfl rfl rfl rfl | exact z_alloc rfl rfl rfl | exact o_alloc zero_Opn rfl rfl | exact o_alloc zero_Ans rfl rfl | exact o_bsll zero_Ans rfl rfl rfl rfl rfl rfl rfl | exact o_bsll zero_Opn rfl rfl rfl rfl rfl rfl rfl rfl)); (focus (first | exact want_n | exact want_g rfl (by with_reducible rfl)))) | (apply Ws; (focus (exact ok_store tabT (d := none) rfl rfl rfl rfl rfl rfl rfl rfl rfl rfl)); (focus (first | exact want_n | exact want_g rfl (by with_reducible rfl)))) | (refine Wskip (by first | exact want_f rfl (by with_reducible exact b_nt) | exact want_f rfl (by with_reducible exact b_nf) | exact want_t rfl) rfl ?_) | refine Wgt rfl rfl (by first | assumption | omega | exact rfl) ?_ | refine Wgf rfl rfl (by first | assumption | omega | exact rfl) ?_ | (refine Wgb rfl rfl (by with_reducible assumption) ?_) | (refine cb_is _ (by assumption) ?_)))); exact kHid.out) : Q := h ⟨k⟩
attribute [local irreducible] OpOK AWops AW CondB Go2 AFn thenA inBlockA noGotoA orderOk wantedA
set_option maxRecDepth 100000 in
set_option maxHeartbeats 4000000 in
theorem a_lop (v : Int) (hv : -9223372036854775808 ≤ v ∧ v ≤ 9223372036854775807) : AFn Try.prog 29 [intA v] (lawOp v).av := by
  refine AFn_intro Try.func29 rfl Try.ntmps29 rfl (by simp) [_] rfl fun E hE => ?_
  have h0 := Int.emod_nonneg v (show (1099511627776 : Int) ≠ 0 by omega)
  have h1 := Int.emod_lt_of_pos v (show (0 : Int) < 1099511627776 by omega)
  have c1 := a_lplace v 1099511627776 (by omega) (by omega) hv
  unfold lawOp
  dsimp only
  generalize v % 1099511627776 = k at h0 h1 c1 ⊢
  have d1 := acall Try.func11 (c1) (by decide +kernel) (by decide +kernel)
  have d3 := acall Try.func19 (a_lkey (k / 4) (by omega)) (by decide +kernel) (by decide +kernel)
  have d4 := acall Try.func27 (a_lval (k / 64) (by omega)) (by decide +kernel) (by decide +kernel)
  have d5 := acall Try.func18 (a_reftext (lawKey (k / 4))) (by decide +kernel) (by decide +kernel)
  have d6 := acall Try.func44 (a_refvtext (lawVl (k / 64))) (by decide +kernel) (by decide +kernel)
  have z1 := bytesOf_size (lawKey (k / 4)).txt
  have z2 := Key.txt_length (lawKey (k / 4))
  have z3 := bytesOf_size (lawVl (k / 64)).txt
  have z4 := Vl.txt_length (lawVl (k / 64))
  have z5 : nine.size = 9 := rfl
  have z6 : seventeen.size = 18 := rfl
  by_cases q0 : k % 4 = 0
  · have e1 : 1 + k % 4 = 1 := by omega
    have e3 : ¬ 1 + k % 4 = 3 := by omega
    rw [if_pos q0, if_neg (show ¬ k % 4 = 2 by omega)]
    by_cases q7 : k / 8 % 64 = 7
    · have q9 : ¬ k / 8 % 64 = 9 := by omega
      rw [if_pos q7, if_neg q9]
      refine wR ?_
      exact fin ⟨res_var rfl rfl rfl rfl, trivial⟩
    · rw [if_neg q7]
      by_cases q9 : k / 8 % 64 = 9
      · rw [if_pos q9]
        refine wR ?_
        exact fin ⟨res_var rfl rfl rfl rfl, trivial⟩
      · rw [if_neg q9]
        refine wR ?_
        exact fin ⟨res_var rfl rfl rfl rfl, trivial⟩
  have e1 : ¬ 1 + k % 4 = 1 := by omega
  rw [if_neg q0]
  by_cases q2 : k % 4 = 2
  · have e3 : 1 + k % 4 = 3 := by omega
    rw [if_pos q2]
    by_cases q7 : k / 8 % 64 = 7
    · have q9 : ¬ k / 8 % 64 = 9 := by omega
      rw [if_pos q7]
      refine wR ?_
      exact fin ⟨res_var rfl rfl rfl rfl, trivial⟩
    · rw [if_neg q7]
      by_cases q9 : k / 8 % 64 = 9
      · refine wR ?_
        exact fin ⟨res_var rfl rfl rfl rfl, trivial⟩
      · refine wR ?_
        exact fin ⟨res_var rfl rfl rfl rfl, trivial⟩
  have e3 : ¬ 1 + k % 4 = 3 := by omega
  rw [if_neg q2]
  by_cases q7 : k / 8 % 64 = 7
  · have q9 : ¬ k / 8 % 64 = 9 := by omega
    rw [if_pos q7]
    refine wR ?_
    exact fin ⟨res_var rfl rfl rfl rfl, trivial⟩
  rw [if_neg q7]
  by_cases q9 : k / 8 % 64 = 9
  · refine wR ?_
    exact fin ⟨res_var rfl rfl rfl rfl, trivial⟩
  · refine wR ?_
    exact fin ⟨res_var rfl rfl rfl rfl, trivial⟩
end Go.Proofs.Ytofcabhahdecdaa

namespace Go.Proofs.Ytofcabhahdecdaa
open Go Go.RowKit
set_option linter.unusedVariables false
set_option linter.unusedSimpArgs false
set_option maxRecDepth 100000

theorem kids_no (ks : List Int) (cs : List Key) (cmp : Key → Key → Int) (j : Nat) (h : j < ks.length) (hJ : kidsFrom ks 0 ks = kidsFrom ks j (ks.drop j)) (e : ks[j] < 1 ∨ 256 ≤ ks[j] ∨ idxOf ks ks[j] ≠ (j : Int)) : fanOkBy cmp ks cs = false := by
  unfold fanOkBy
  rw [hJ, kidsFrom_step ks ks j h]
  rcases e with e | e | e
  · rw [show decide (1 ≤ ks[j]) = false from decide_eq_false (by omega)]; simp
  · rw [show decide (ks[j] < 256) = false from decide_eq_false (by omega)]; simp
  · rw [show decide (idxOf ks ks[j] = (j : Int)) = false from decide_eq_false e]; simp
theorem kids_on (ks : List Int) (j : Nat) (h : j < ks.length) (hJ : kidsFrom ks 0 ks = kidsFrom ks j (ks.drop j)) (e1 : ¬ ks[j] < 1) (e2 : ¬ 256 ≤ ks[j]) (e3 : idxOf ks ks[j] = (j : Int)) : kidsFrom ks 0 ks = kidsFrom ks (j + 1) (ks.drop (j + 1)) := by
  rw [hJ, kidsFrom_step ks ks j h, show decide (1 ≤ ks[j]) = true from decide_eq_true (by omega), show decide (ks[j] < 256) = true from decide_eq_true (by omega), show decide (idxOf ks ks[j] = (j : Int)) = true from decide_eq_true e3]
  simp
theorem fan_no (ks : List Int) (cs : List Key) (cmp : Key → Key → Int) (e : ks.length < 2 ∨ 4 < ks.length ∨ cs.length + 1 ≠ ks.length) : fanOkBy cmp ks cs = false := by
  unfold fanOkBy
  rcases e with e | e | e
  · rw [show decide (2 ≤ ks.length) = false from decide_eq_false (by omega)]; simp
  · rw [show decide (ks.length ≤ 4) = false from decide_eq_false (by omega)]; simp
  · rw [show decide (cs.length + 1 = ks.length) = false from decide_eq_false e]; simp
theorem fan_on (ks : List Int) (cs : List Key) (cmp : Key → Key → Int) (h2 : 2 ≤ ks.length) (h4 : ks.length ≤ 4) (hc : cs.length + 1 = ks.length) (hk : kidsFrom ks 0 ks = true) : fanOkBy cmp ks cs = risesBy cmp none cs := by
  unfold fanOkBy
  rw [decide_eq_true h2, decide_eq_true h4, decide_eq_true hc, hk]; simp
theorem rise_no0 (cmp : Key → Key → Int) (cs : List Key) (j : Nat) (h : j < cs.length) (hJ : risesBy cmp none cs = risesBy cmp (ahead cs j) (cs.drop j)) (e : cs[j].ok = false) : risesBy cmp none cs = false := by
  cases j with
  | zero => rw [hJ, risesBy_step0 cmp cs h, e]; rfl
  | succ m => rw [hJ, risesBy_step cmp cs m h, e]; rfl
theorem rise_no1 (cmp : Key → Key → Int) (cs : List Key) (m : Nat) (h : m + 1 < cs.length) (hJ : risesBy cmp none cs = risesBy cmp (ahead cs (m + 1)) (cs.drop (m + 1))) (e : 0 ≤ cmp cs[m] cs[m + 1]) : risesBy cmp none cs = false := by
  rw [hJ, risesBy_step cmp cs m h, show decide (cmp cs[m] cs[m + 1] < 0) = false from decide_eq_false (by omega)]; simp
theorem rise_on0 (cmp : Key → Key → Int) (cs : List Key) (h : 0 < cs.length) (hJ : risesBy cmp none cs = risesBy cmp (ahead cs 0) (cs.drop 0)) (e : cs[0].ok = true) : risesBy cmp none cs = risesBy cmp (ahead cs 1) (cs.drop 1) := by
  rw [hJ, risesBy_step0 cmp cs h, e]; simp
theorem rise_on1 (cmp : Key → Key → Int) (cs : List Key) (m : Nat) (h : m + 1 < cs.length) (hJ : risesBy cmp none cs = risesBy cmp (ahead cs (m + 1)) (cs.drop (m + 1))) (e : cs[m + 1].ok = true) (c : ¬ 0 ≤ cmp cs[m] cs[m + 1]) : risesBy cmp none cs = risesBy cmp (ahead cs (m + 2)) (cs.drop (m + 2)) := by
  rw [hJ, risesBy_step cmp cs m h, e, show decide (cmp cs[m] cs[m + 1] < 0) = true from decide_eq_true (by omega)]; simp
attribute [local irreducible] OpOK AWops AW CondB Go2 AFn thenA inBlockA noGotoA orderOk wantedA
end Go.Proofs.Ytofcabhahdecdaa

namespace Go.Proofs.Ytofcabhahdecdaa
open Go Go.RowKit
set_option linter.unusedVariables false
set_option linter.unusedSimpArgs false
set_option maxRecDepth 100000

theorem flat_take {α : Type} (l : List (List α)) (j : Nat) (h : j < l.length) : (l.take (j + 1)).flatten = (l.take j).flatten ++ l[j] := by
  rw [List.take_succ_eq_append_getElem h, List.flatten_append]; simp
theorem flat_le {α : Type} (l : List (List α)) (j : Nat) : (l.take j).flatten.length ≤ l.flatten.length := by
  conv => rhs; rw [← List.take_append_drop j l, List.flatten_append, List.length_append]
  omega
def insKids (ks : List Int) (i : Nat) (id : Int) : List Int := ks.take (i + 1) ++ ([id] ++ ks.drop (i + 1))
def insCuts (cs : List Key) (at_ : Nat) (x : Key) : List Key := cs.take at_ ++ ([x] ++ cs.drop at_)
def fanIns (ks : List Int) (cs : List Key) (i : Int) (x : Key) (id : Int) : List Int × List Key :=
  if 0 ≤ i ∧ i < ks.length then (insKids ks i.toNat id, insCuts cs (min i.toNat cs.length) x) else (ks, cs)
attribute [local irreducible] OpOK AWops AW CondB Go2 AFn thenA inBlockA noGotoA orderOk wantedA
def fanHal (ks : List Int) (cs : List Key) : List Int × List Key × Key × List Int × List Key × Bool :=
  if ks.length = 4 ∧ cs.length = 3 then (ks.take 2, cs.take 1, cs.getD 1 Key.zero, ks.drop 2, cs.drop 2, true) else ([], [], Key.zero, [], [], false)
def fanHalA (h : List Int × List Key × Key × List Int × List Key × Bool) : AV := .tup [intsA h.1, keysA h.2.1, h.2.2.1.av, intsA h.2.2.2.1, keysA h.2.2.2.2.1, boolA h.2.2.2.2.2]
end Go.Proofs.Ytofcabhahdecdaa

namespace Go.Proofs.Ytofcabhahdecdaa
open Go Go.RowKit
set_option linter.unusedVariables false
set_option linter.unusedSimpArgs false
set_option maxRecDepth 100000

/-- the first j kids, with one more behind place i -/
def insK (ks : List Int) (i id : Int) (j : Nat) : List Int := if 0 ≤ i ∧ i < j then ks.take (i.toNat + 1) ++ ([id] ++ (ks.take j).drop (i.toNat + 1)) else ks.take j
theorem insK_hit (ks : List Int) (i id : Int) (j : Nat) (h : j < ks.length) (e : (j : Int) = i) : insK ks i id (j + 1) = insK ks i id j ++ [ks[j]] ++ [id] := by
  subst e
  unfold insK
  rw [if_pos (by omega), if_neg (by omega), Int.toNat_natCast, List.drop_eq_nil_of_le (by simp; omega), List.take_succ_eq_append_getElem h]
  simp
theorem insK_miss (ks : List Int) (i id : Int) (j : Nat) (h : j < ks.length) (e : ¬ (j : Int) = i) : insK ks i id (j + 1) = insK ks i id j ++ [ks[j]] := by
  unfold insK
  by_cases c : 0 ≤ i ∧ i < j
  · rw [if_pos (by omega), if_pos c, List.take_succ_eq_append_getElem h, List.drop_append_of_le_length (by simp; omega)]
    simp
  · rw [if_neg (by omega), if_neg c, List.take_succ_eq_append_getElem h]
theorem insK_zero (ks : List Int) (i id : Int) : insK ks i id 0 = [] := by
  unfold insK; rw [if_neg (by omega)]; rfl
theorem insK_end (ks : List Int) (cs : List Key) (i id : Int) (x : Key) : insK ks i id ks.length = (fanIns ks cs i x id).1 := by
  unfold insK fanIns
  by_cases c : 0 ≤ i ∧ i < ks.length
  · rw [if_pos c, if_pos c]; simp [insKids]
  · rw [if_neg c, if_neg c]; simp
theorem insK_le (ks : List Int) (i id : Int) (j : Nat) : (insK ks i id j).length ≤ ks.length + 1 + ks.length := by
  unfold insK; split <;> simp <;> omega
/-- the first j pivots, with one more ahead of place i -/
def insC (cs : List Key) (m : Nat) (i : Int) (x : Key) (j : Nat) : List Key := if 0 ≤ i ∧ i < m ∧ i < j then cs.take i.toNat ++ ([x] ++ (cs.take j).drop i.toNat) else cs.take j
theorem insC_hit (cs : List Key) (m : Nat) (i : Int) (x : Key) (j : Nat) (h : j < cs.length) (e : (j : Int) = i) (hm : i < m) : insC cs m i x (j + 1) = insC cs m i x j ++ [x] ++ [cs[j]] := by
  subst e
  unfold insC
  rw [if_pos (by omega), if_neg (by omega), Int.toNat_natCast, List.take_succ_eq_append_getElem h, List.drop_append_of_le_length (by simp; omega), List.drop_eq_nil_of_le (by simp; omega)]
  simp
theorem insC_miss (cs : List Key) (m : Nat) (i : Int) (x : Key) (j : Nat) (h : j < cs.length) (e : ¬ ((j : Int) = i ∧ i < m)) : insC cs m i x (j + 1) = insC cs m i x j ++ [cs[j]] := by
  unfold insC
  by_cases c : 0 ≤ i ∧ i < m ∧ i < j
  · rw [if_pos (by omega), if_pos c, List.take_succ_eq_append_getElem h, List.drop_append_of_le_length (by simp; omega)]
    simp
  · rw [if_neg (by omega), if_neg c, List.take_succ_eq_append_getElem h]
theorem insC_zero (cs : List Key) (m : Nat) (i : Int) (x : Key) : insC cs m i x 0 = [] := by
  unfold insC; rw [if_neg (by omega)]; rfl
theorem insC_last (ks : List Int) (cs : List Key) (i id : Int) (x : Key) (e : i = cs.length) (hm : i < ks.length) : insC cs ks.length i x cs.length ++ [x] = (fanIns ks cs i x id).2 := by
  subst e
  unfold insC fanIns
  rw [if_neg (by omega), if_pos (by omega)]
  simp [insCuts]
theorem insC_end (ks : List Int) (cs : List Key) (i id : Int) (x : Key) (hl : ks.length ≤ cs.length + 1) (e : ¬ (i = cs.length ∧ i < ks.length)) : insC cs ks.length i x cs.length = (fanIns ks cs i x id).2 := by
  unfold insC fanIns
  by_cases c : 0 ≤ i ∧ i < ks.length
  · rw [if_pos (by omega), if_pos c]
    have : min i.toNat cs.length = i.toNat := by omega
    simp [insCuts, this]
  · rw [if_neg (by omega), if_neg c]; simp
theorem insC_le (cs : List Key) (m : Nat) (i : Int) (x : Key) (j : Nat) : (insC cs m i x j).length ≤ cs.length + 1 + cs.length := by
  unfold insC; split <;> simp <;> omega
/-- the first places at which two rows are alike -/
theorem same_step {α : Type} [DecidableEq α] (a b : List α) (j : Nat) (h : j < a.length) (h' : j < b.length) (e : a[j] = b[j]) (k : a.take j = b.take j) : a.take (j + 1) = b.take (j + 1) := by
  rw [List.take_succ_eq_append_getElem h, List.take_succ_eq_append_getElem h', e, k]
theorem same_no {α : Type} [DecidableEq α] (a b : List α) (j : Nat) (h : j < a.length) (h' : j < b.length) (e : a[j] ≠ b[j]) : decide (a = b) = false := decide_eq_false fun k => e (by subst k; rfl)
attribute [local irreducible] OpOK AWops AW CondB Go2 AFn thenA inBlockA noGotoA orderOk wantedA
end Go.Proofs.Ytofcabhahdecdaa

namespace Go.Proofs.Ytofcabhahdecdaa
open Go Go.RowKit
set_option linter.unusedVariables false
set_option linter.unusedSimpArgs false
set_option maxRecDepth 100000

def lawRowsF (l : List Int) (j : Nat) : List Opn := (l.take j).map lawOp
def lawRows (l : List Int) : List Opn := lawRowsF l 100
theorem lawRowsF_snoc (l : List Int) (j : Nat) (h : j < l.length) : lawRowsF l (j + 1) = lawRowsF l j ++ [lawOp l[j]] := by
  unfold lawRowsF
  rw [← List.take_append_getElem h, List.map_append]
  rfl
theorem lawRowsF_end (l : List Int) (j : Nat) (h : j = 100 ∨ (j = l.length ∧ j ≤ 100)) : lawRowsF l j = lawRows l := by
  unfold lawRows lawRowsF
  rcases h with h | ⟨h1, h2⟩
  · rw [h]
  · subst h1; rw [List.take_of_length_le (Nat.le_refl _), List.take_of_length_le h2]
theorem lawRowsF_len (l : List Int) (j : Nat) : (lawRowsF l j).length ≤ j := by unfold lawRowsF; simp; omega
theorem lawRows_len (l : List Int) : (lawRows l).length ≤ 100 := lawRowsF_len l 100
attribute [local irreducible] OpOK AWops AW CondB Go2 AFn thenA inBlockA noGotoA orderOk wantedA
set_option maxRecDepth 100000 in
set_option maxHeartbeats 4000000 in
theorem a_rows (l : List Int) (hb : ∀ n ∈ l, -9223372036854775808 ≤ n ∧ n ≤ 9223372036854775807) : AFn Try.prog 10 [intsA l] (opsA (lawRows l)) := by
  refine AFn_intro Try.func10 rfl Try.ntmps10 rfl (by simp) [_] rfl fun E hE => ?_
  refine wR ?_
  refine AW_go (Go2.token 3 30 3 37 rfl rfl) ?_
  refine AW_loopI (fun j : Nat => ⟨[(0, intsA l), (3, .sl (some 30) 4 ((lawRowsF l j).map Opn.av)), (4, intA j)], [(30, .tail 37 4 (lawRowsF l j).length)]⟩) (fun j => j ≤ l.length ∧ j ≤ 100) (fun j => l.length - j) 0 ⟨Nat.zero_le _, Nat.zero_le _⟩ (by (refine Go2.sub ⟨?_, ?_, ?_⟩ <;> repeat' (first | exact True.intro | rfl | apply And.intro))) (fun j hj => ?_)
  obtain ⟨hj, hj2⟩ := hj
  have hlen := lawRowsF_len l j
  by_cases hlt : j < l.length
  · have hlt' : (j : Int) < (l.length : Nat) := by omega
    by_cases h100 : j < 100
    · have h100' : (j : Int) < 100 := by omega
      have c1 := a_lop l[j] (hb _ (List.getElem_mem hlt))
      have d1 := acall Try.func29 (c1) (by decide +kernel) (by decide +kernel)
      have hs := lawRowsF_snoc l j hlt
      refine wR ?_
      refine ⟨j + 1, ⟨hlt, by omega⟩, by omega, ?_⟩
      rw [hs]
      (refine Go2.sub ⟨?_, ?_, ?_⟩ <;> repeat' (first | exact True.intro | rfl | apply And.intro))
    · have h100' : ¬ (j : Int) < 100 := by omega
      rw [← lawRowsF_end l j (.inl (by omega))]
      refine wR ?_
      exact fin ⟨res_sl rfl, trivial⟩
  · have hlt' : ¬ (j : Int) < (l.length : Nat) := by omega
    rw [← lawRowsF_end l j (.inr ⟨by omega, hj2⟩)]
    refine wR ?_
    exact fin ⟨res_sl rfl, trivial⟩
set_option maxRecDepth 100000 in
set_option maxHeartbeats 4000000 in
theorem a_refrun24 (l : List Ent) (ops : List Opn) (h : Lf l) (hl : l.length ≤ 100000000) (ho : ops.length ≤ 100000000) : AFn Try.prog 21 [entsA l, opsA ops] (.tup [entsA (mdRun l ops).1, ansA (mdRun l ops).2]) := by
  refine AFn_intro Try.func21 rfl Try.ntmps21 rfl (by simp) [_, _] rfl fun E hE => ?_
  refine wM ?_
  refine AW_go (Go2.token 6 30 18 43 rfl rfl) ?_
  refine AW_loopI (fun j : Nat => ⟨[(0, entsA (mdF l ops j).1), (1, opsA ops), (6, .sl (some 30) 19 ((mdF l ops j).2.map Ans.av)), (7, intA j)], [(30, .tail 43 19 (mdF l ops j).2.length)]⟩) (fun j => j ≤ ops.length) (fun j => ops.length - j) 0 (Nat.zero_le _) (by (refine Go2.sub ⟨?_, ?_, ?_⟩ <;> repeat' (first | exact True.intro | rfl | apply And.intro))) (fun j hj => ?_)
  have hlf := mdF_lf h ops j
  obtain ⟨hb1, hb2⟩ := mdF_len l ops j
  by_cases hlt : j < ops.length
  · have hs := mdF_snoc l ops j hlt
    have c1 := a_refdo (mdF l ops j).1 ops[j] hlf (by omega)
    have d1 := acall Try.func22 (c1) (by decide +kernel) (by decide +kernel)
    have hlt' : (j : Int) < (ops.length : Nat) := by omega
    refine wM ?_
    refine ⟨j + 1, by omega, by omega, ?_⟩
    rw [hs]
    (refine Go2.sub ⟨?_, ?_, ?_⟩ <;> repeat' (first | exact True.intro | rfl | apply And.intro))
  · obtain rfl : j = ops.length := by omega
    have hlt' : ¬ (ops.length : Int) < (ops.length : Nat) := by omega
    rw [mdF_end]
    refine wM ?_
    exact fin ⟨res_sl rfl, res_sl rfl, trivial⟩
set_option maxRecDepth 100000 in
set_option maxHeartbeats 4000000 in
theorem a_sameAns (a b : List Ans) (h1 : a.length ≤ 1000000000) : AFn Try.prog 14 [ansA a, ansA b] (boolA (decide (a = b))) := by
  refine AFn_intro Try.func14 rfl Try.ntmps14 rfl (by simp) [_] rfl fun E hE => ?_
  by_cases hl : a.length = b.length
  · refine wM ?_
    refine AW_loopI (fun j : Nat => ⟨[(0, ansA a), (1, ansA b), (5, intA j)], []⟩) (fun j => j ≤ a.length ∧ a.take j = b.take j) (fun j => a.length - j) 0 ⟨Nat.zero_le _, rfl⟩ (by (refine Go2.sub ⟨?_, ?_, ?_⟩ <;> repeat' (first | exact True.intro | rfl | apply And.intro))) (fun j hj => ?_)
    obtain ⟨hj, hJ⟩ := hj
    by_cases hlt : j < a.length
    · have hlt' : j < b.length := by omega
      by_cases h : a[j] = b[j]
      · have h' : ¬ a[j] ≠ b[j] := fun k => k h
        refine wM ?_
        refine ⟨j + 1, ⟨hlt, same_step a b j hlt hlt' h hJ⟩, by omega, ?_⟩
        (refine Go2.sub ⟨?_, ?_, ?_⟩ <;> repeat' (first | exact True.intro | rfl | apply And.intro))
      · have h' : a[j] ≠ b[j] := h
        rw [same_no a b j hlt hlt' h]
        refine wM ?_
        exact fin ⟨res_of rfl rfl rfl, trivial⟩
    · have : j = a.length := by omega
      subst this
      rw [List.take_length, hl, List.take_length] at hJ
      rw [decide_eq_true hJ]
      refine wM ?_
      exact fin ⟨res_of rfl rfl rfl, trivial⟩
  · rw [show decide (a = b) = false from decide_eq_false fun k => hl (by rw [k])]
    refine wM ?_
    exact fin ⟨res_of rfl rfl rfl, trivial⟩
set_option maxRecDepth 100000 in
set_option maxHeartbeats 4000000 in
theorem m_eqEnts (a b : List Ent) (h1 : a.length ≤ 1000000000) : AFn Try.prog 31 [entsA a, entsA b] (boolA (decide (a = b))) := by
  refine AFn_intro Try.func31 rfl Try.ntmps31 rfl (by simp) [_] rfl fun E hE => ?_
  by_cases hl : a.length = b.length
  · refine wL ?_
    refine AW_loopI (fun j : Nat => ⟨[(0, entsA a), (1, entsA b), (12, intA a.length), (13, intA j)], []⟩) (fun j => j ≤ a.length ∧ a.take j = b.take j) (fun j => a.length - j) 0 ⟨Nat.zero_le _, rfl⟩ (by (refine Go2.sub ⟨?_, ?_, ?_⟩ <;> repeat' (first | exact True.intro | rfl | apply And.intro))) (fun j hj => ?_)
    obtain ⟨hj, hJ⟩ := hj
    by_cases hlt : j < a.length
    · have hlt' : j < b.length := by omega
      by_cases h : a[j] = b[j]
      · have h' : ¬ a[j] ≠ b[j] := fun k => k h
        refine wL ?_
        refine ⟨j + 1, ⟨hlt, same_step a b j hlt hlt' h hJ⟩, by omega, ?_⟩
        (refine Go2.sub ⟨?_, ?_, ?_⟩ <;> repeat' (first | exact True.intro | rfl | apply And.intro))
      · have h' : a[j] ≠ b[j] := h
        rw [same_no a b j hlt hlt' h]
        refine wL ?_
        exact fin ⟨res_of rfl rfl rfl, trivial⟩
    · have : j = a.length := by omega
      subst this
      rw [List.take_length, hl, List.take_length] at hJ
      rw [decide_eq_true hJ]
      refine wL ?_
      exact fin ⟨res_of rfl rfl rfl, trivial⟩
  · rw [show decide (a = b) = false from decide_eq_false fun k => hl (by rw [k])]
    refine wL ?_
    exact fin ⟨res_of rfl rfl rfl, trivial⟩
set_option maxRecDepth 100000 in
set_option maxHeartbeats 4000000 in
theorem m_sameEnts (a b : List Ent) (h1 : a.length ≤ 1000000000) : AFn Try.prog 25 [entsA a, entsA b] (boolA (decide (a = b))) := by
  refine AFn_intro Try.func25 rfl Try.ntmps25 rfl (by simp) [_] rfl fun E hE => ?_
  by_cases hl : a.length = b.length
  · refine wL ?_
    refine AW_loopI (fun j : Nat => ⟨[(0, entsA a), (1, entsA b), (5, intA j)], []⟩) (fun j => j ≤ a.length ∧ a.take j = b.take j) (fun j => a.length - j) 0 ⟨Nat.zero_le _, rfl⟩ (by (refine Go2.sub ⟨?_, ?_, ?_⟩ <;> repeat' (first | exact True.intro | rfl | apply And.intro))) (fun j hj => ?_)
    obtain ⟨hj, hJ⟩ := hj
    by_cases hlt : j < a.length
    · have hlt' : j < b.length := by omega
      by_cases h : a[j] = b[j]
      · have h' : ¬ a[j] ≠ b[j] := fun k => k h
        refine wL ?_
        refine ⟨j + 1, ⟨hlt, same_step a b j hlt hlt' h hJ⟩, by omega, ?_⟩
        (refine Go2.sub ⟨?_, ?_, ?_⟩ <;> repeat' (first | exact True.intro | rfl | apply And.intro))
      · have h' : a[j] ≠ b[j] := h
        rw [same_no a b j hlt hlt' h]
        refine wL ?_
        exact fin ⟨res_of rfl rfl rfl, trivial⟩
    · have : j = a.length := by omega
      subst this
      rw [List.take_length, hl, List.take_length] at hJ
      rw [decide_eq_true hJ]
      refine wL ?_
      exact fin ⟨res_of rfl rfl rfl, trivial⟩
  · rw [show decide (a = b) = false from decide_eq_false fun k => hl (by rw [k])]
    refine wL ?_
    exact fin ⟨res_of rfl rfl rfl, trivial⟩
set_option maxRecDepth 100000 in
set_option maxHeartbeats 4000000 in
theorem a_msame (a b : List Ent) (h1 : a.length ≤ 1000000000) : AFn Try.prog 13 [entsA a, entsA b] (boolA (decide (a = b))) := by
  refine AFn_intro Try.func13 rfl Try.ntmps13 rfl (by simp) [_] rfl fun E hE => ?_
  have d1 := acall Try.func31 (m_eqEnts a b h1) (by decide +kernel) (by decide +kernel)
  refine wL ?_
  exact fin ⟨res_of rfl rfl rfl, trivial⟩
end Go.Proofs.Ytofcabhahdecdaa

namespace Go.Proofs.Ytofcabhahdecdaa
open Go Go.RowKit
set_option linter.unusedVariables false
set_option linter.unusedSimpArgs false
set_option maxRecDepth 100000

theorem set_one (k : Key) (v : Vl) (o : Option Vl) : lfSet [⟨k, v⟩] k o = newE k o := by simp [lfSet]
theorem set_none (k : Key) (o : Option Vl) : lfSet [] k o = newE k o := by simp [lfSet]
theorem get_one (k : Key) (v : Vl) : lfGet k [⟨k, v⟩] = some v := by simp [lfGet]
theorem get_zero (k : Key) : lfGet k [] = none := rfl
theorem do_put0 (s t : ByteArray) (hs : s.size ≤ 8) (ht : t.size ≤ 16) : mdDo [] ⟨1, s, t, 0#64⟩ = ([⟨(keyOf s).1, (vlOf t).1⟩], ⟨0, false, Vl.zero⟩) := by
  unfold mdDo large
  rw [if_neg (by simp; omega), if_neg (by simp), if_neg (by simp)]
  unfold lfPut msgOf
  simp only [set_none, get_zero, ap, if_true, newE]
theorem do_add1 (s t : ByteArray) (v : Vl) (n : BitVec 64) (hs : s.size ≤ 8) : mdDo [⟨(keyOf s).1, v⟩] ⟨3, s, t, n⟩ = ([⟨(keyOf s).1, vplus v n⟩], ⟨0, false, Vl.zero⟩) := by
  unfold mdDo large
  rw [if_neg (by simp; omega), if_neg (by simp), if_neg (by simp)]
  unfold lfPut msgOf
  simp only [set_one, get_one, ap]
  rfl
theorem do_get1 (s t : ByteArray) (v : Vl) (n : BitVec 64) (hs : s.size ≤ 8) : mdDo [⟨(keyOf s).1, v⟩] ⟨4, s, t, n⟩ = ([⟨(keyOf s).1, v⟩], ⟨0, true, v⟩) := by
  unfold mdDo large
  rw [if_neg (by simp; omega), if_pos rfl]
  simp only [get_one, opA]
theorem do_del1 (s t : ByteArray) (v : Vl) (n : BitVec 64) (hs : s.size ≤ 8) : mdDo [⟨(keyOf s).1, v⟩] ⟨2, s, t, n⟩ = ([], ⟨0, false, Vl.zero⟩) := by
  unfold mdDo large
  rw [if_neg (by simp; omega), if_neg (by simp), if_neg (by simp)]
  unfold lfPut msgOf
  simp only [set_one, ap]
  rfl
theorem do_nine : mdDo [] ⟨9, .empty, .empty, 0#64⟩ = ([], ⟨1, false, Vl.zero⟩) := by
  unfold mdDo large
  rw [if_neg (by decide), if_neg (by simp), if_pos (by simp)]
theorem do_large (s : ByteArray) (hs : 8 < s.size) (o : Opn) (ho : o.key = s) : mdDo [] o = ([], ⟨2, false, Vl.zero⟩) := by
  unfold mdDo large
  rw [if_pos (by simp [ho, hs])]
def sA : ByteArray := { data := #[97] }
def s1 : ByteArray := { data := #[49] }
def awOps : List Opn := [⟨1, sA, s1, 0#64⟩, ⟨3, sA, .empty, 1#64⟩, ⟨4, sA, .empty, 0#64⟩, ⟨2, sA, .empty, 0#64⟩, ⟨9, .empty, .empty, 0#64⟩]
def awV : Vl := vplus (vlOf s1).1 1#64
theorem aw_run : mdRun [] awOps = ([], [⟨0, false, Vl.zero⟩, ⟨0, false, Vl.zero⟩, ⟨0, true, awV⟩, ⟨0, false, Vl.zero⟩, ⟨1, false, Vl.zero⟩]) := by
  have h8 : sA.size ≤ 8 := by decide
  unfold mdRun awOps
  simp only [List.foldl_cons, List.foldl_nil, mdStep]
  rw [do_put0 sA s1 h8 (by decide)]
  simp only
  rw [do_add1 sA .empty _ _ h8]
  simp only
  rw [do_get1 sA .empty _ _ h8]
  simp only
  rw [do_del1 sA .empty _ _ h8]
  simp only
  rw [do_nine]
  rfl
theorem aw_num : numOf (vlOf s1).1 = 49#64 := by
  have : vlOf s1 = (mkVl [49#8], 0) := by
    unfold vlOf
    rw [if_pos (by decide)]
    rfl
  rw [this]
  decide
theorem awV_eq : awV = fromN 50#64 := by unfold awV vplus; rw [aw_num]; rfl
theorem awV_n : awV.n = 8 := by rw [awV_eq]; rfl
theorem awV_b : awV.b.toList[0]? = some 50#8 := by rw [awV_eq]; decide
attribute [local irreducible] OpOK AWops AW CondB Go2 AFn thenA inBlockA noGotoA orderOk wantedA
set_option maxRecDepth 100000 in
set_option maxHeartbeats 8000000 in
theorem a_awake24 : AFn Try.prog 15 [] (boolA true) := by
  refine AFn_intro Try.func15 rfl Try.ntmps15 rfl (by simp) [_] rfl fun E hE => ?_
  have c1 := a_mrun [] awOps lf_nil (by simp) (by unfold awOps; simp)
  rw [aw_run] at c1
  have c2 := a_mdo [] ⟨1, { data := #[110, 105, 110, 101, 98, 121, 116, 101, 115] }, .empty, 0#64⟩ lf_nil (by simp)
  rw [do_large _ (show 8 < ({ data := #[110, 105, 110, 101, 98, 121, 116, 101, 115] } : ByteArray).size by decide) _ rfl] at c2
  have c3 := a_msame [] [] (by simp)
  have hn := awV_n
  have hb := awV_b
  generalize awV = V at c1 hn hb
  have e1 : opsA awOps = .sl none 4 [⟨1, sA, s1, 0#64⟩ |> Opn.av, .agg 4 [intA 3, strA sA, strA .empty, .v (.int .u64 1)], ⟨4, sA, .empty, 0#64⟩ |> Opn.av, ⟨2, sA, .empty, 0#64⟩ |> Opn.av, ⟨9, .empty, .empty, 0#64⟩ |> Opn.av] := by
    unfold opsA awOps
    simp only [List.map_cons, List.map_nil]
    have : (⟨3, sA, .empty, 1#64⟩ : Opn).av = .agg 4 [intA 3, strA sA, strA .empty, .v (.int .u64 1)] := by
      unfold Opn.av u64A
      rw [show D64 1#64 = 1 from by rw [D64_def]; rfl]
    rw [this]
  rw [e1] at c1
  have k' : (!true) = false := rfl
  have k'' : (!false) = true := rfl
  refine wM ?_
  (apply Wv; (focus (apply o_call Try.func12 (c1) rfl (by decide +kernel) rfl rfl; (any_goals (intro _; (repeat (first | exact wkl0 | refine wkd rfl ?_ | refine wkt ?_ | refine wkn ?_)); done)); (any_goals rfl))); (focus (first | exact want_n | exact want_g rfl (by with_reducible rfl))))
  refine wM ?_
  (apply Wv; (focus (apply o_call Try.func16 (c2) rfl (by decide +kernel) rfl rfl; (any_goals (intro _; (repeat (first | exact wkl0 | refine wkd rfl ?_ | refine wkt ?_ | refine wkn ?_)); done)); (any_goals rfl))); (focus (first | exact want_n | exact want_g rfl (by with_reducible rfl))))
  have hb' : (V.b.toList.map byteA)[0]? = some (.v (.int .u8 50)) := by
    rw [List.getElem?_map, hb]
    simp only [Option.map_some, byteA, B8_def]
    rfl
  refine wM ?_
  (apply Wv; (focus (exact o_idxra rfl rfl rfl rfl rfl rfl hb')); (focus (first | exact want_n | exact want_g rfl (by with_reducible rfl))))
  refine wM ?_
  (apply Wv; (focus (apply o_call Try.func13 (c3) rfl (by decide +kernel) rfl rfl; (any_goals (intro _; (repeat (first | exact wkl0 | refine wkd rfl ?_ | refine wkt ?_ | refine wkn ?_)); done)); (any_goals rfl))); (focus (first | exact want_n | exact want_g rfl (by with_reducible rfl))))
  refine wM ?_
  exact fin ⟨res_yesm rfl rfl, trivial⟩
end Go.Proofs.Ytofcabhahdecdaa

namespace Go.Proofs.Ytofcabhahdecdaa
open Go Go.RowKit
set_option linter.unusedVariables false
set_option linter.unusedSimpArgs false
set_option maxRecDepth 100000

theorem mdRun_from (x : List Opn) : ∀ (s : List Ent × List Ans), x.foldl mdStep s = ((x.foldl mdStep (s.1, [])).1, s.2 ++ (x.foldl mdStep (s.1, [])).2) := by
  induction x with
  | nil => intro s; simp
  | cons o x ih =>
    intro s
    rw [List.foldl_cons, List.foldl_cons, ih (mdStep s o), ih (mdStep (s.1, []) o)]
    simp [mdStep]
theorem mdRun_append (l : List Ent) (x y : List Opn) : mdRun l (x ++ y) = ((mdRun (mdRun l x).1 y).1, (mdRun l x).2 ++ (mdRun (mdRun l x).1 y).2) := by
  unfold mdRun
  rw [List.foldl_append]
  exact mdRun_from y _
theorem mdRun_lf {l : List Ent} (h : Lf l) (ops : List Opn) : Lf (mdRun l ops).1 := by rw [← mdF_end]; exact mdF_lf h ops _
theorem mdRun_len (l : List Ent) (ops : List Opn) : (mdRun l ops).1.length ≤ l.length + ops.length ∧ (mdRun l ops).2.length ≤ ops.length := by rw [← mdF_end]; exact mdF_len l ops _
attribute [local irreducible] OpOK AWops AW CondB Go2 AFn thenA inBlockA noGotoA orderOk wantedA
set_option maxRecDepth 100000 in
set_option maxHeartbeats 8000000 in
theorem a_modelParts (e ops : List Int) (at0 : Int) (he : ∀ n ∈ e, -9223372036854775808 ≤ n ∧ n ≤ 9223372036854775807) (hops : ∀ n ∈ ops, -9223372036854775808 ≤ n ∧ n ≤ 9223372036854775807) (hat : -9223372036854775808 ≤ at0 ∧ at0 ≤ 9223372036854775807) :
    AFn Try.prog 3 [intsA e, intsA ops, intA at0] (boolA true) := by
  refine AFn_intro Try.func3 rfl Try.ntmps3 rfl (by simp) [_] rfl fun E hE => ?_
  have c1 := a_entries e 3000 he
  have hl := entList_lf e 3000
  have hll := entList_len e 3000
  generalize entList e 3000 = l at c1 hl hll
  have c2 := a_rows ops hops
  have hr := lawRows_len ops
  generalize lawRows ops = row at c2 hr
  have c3 := a_lplace at0 ((row.length : Int) + 1) (by omega) (by omega) hat
  obtain ⟨k, hk⟩ : ∃ k : Nat, at0 % ((row.length : Int) + 1) = (k : Int) := ⟨(at0 % ((row.length : Int) + 1)).toNat, by have := Int.emod_nonneg at0 (show (row.length : Int) + 1 ≠ 0 by omega); omega⟩
  have hkl : k ≤ row.length := by have := Int.emod_lt_of_pos at0 (show (0 : Int) < (row.length : Int) + 1 by omega); omega
  rw [hk] at c3
  have c4 := a_mrun l row hl (by omega) (by omega)
  have c5 := a_mrun l (row.take k) hl (by omega) (by rw [List.length_take]; omega)
  have hl2 := mdRun_lf hl (row.take k)
  have hl2l := (mdRun_len l (row.take k)).1
  rw [List.length_take] at hl2l
  have c6 := a_mrun (mdRun l (row.take k)).1 (row.drop k) hl2 (by omega) (by rw [List.length_drop]; omega)
  have happ := mdRun_append l (row.take k) (row.drop k)
  rw [List.take_append_drop] at happ
  have hr1 := mdRun_len l row
  have hr2 := (mdRun_len l (row.take k)).2
  rw [List.length_take] at hr2
  have hr3 := (mdRun_len (mdRun l (row.take k)).1 (row.drop k)).2
  rw [List.length_drop] at hr3
  generalize mdRun (mdRun l (row.take k)).1 (row.drop k) = R2 at c6 happ hr3
  generalize mdRun l (row.take k) = R1 at c5 c6 happ hr2
  generalize mdRun l row = R at c4 happ hr1
  subst happ
  simp only at hr1
  have c7 := a_msame R2.1 R2.1 (by omega)
  rw [decide_eq_true rfl] at c7
  have c8 := a_sameAns (R1.2 ++ R2.2) (R1.2 ++ R2.2) (by rw [List.length_append]; omega)
  rw [decide_eq_true rfl] at c8
  have d1 := acall Try.func9 (c1) (by decide +kernel) (by decide +kernel)
  have d2 := acall Try.func10 (c2) (by decide +kernel) (by decide +kernel)
  have d3 := acall Try.func11 (c3) (by decide +kernel) (by decide +kernel)
  have d4 := acall Try.func12 (c4) (by decide +kernel) (by decide +kernel)
  have d5 := acall Try.func12 (c5) (by decide +kernel) (by decide +kernel)
  have d6 := acall Try.func12 (c6) (by decide +kernel) (by decide +kernel)
  have d7 := acall Try.func13 (c7) (by decide +kernel) (by decide +kernel)
  have d8 := acall Try.func14 (c8) (by decide +kernel) (by decide +kernel)
  have d9 := acall Try.func15 (a_awake24) (by decide +kernel) (by decide +kernel)
  refine wM ?_
  exact fin ⟨res_of rfl rfl rfl, trivial⟩
set_option maxRecDepth 100000 in
set_option maxHeartbeats 8000000 in
theorem a_modelLarge (e : List Int) (key val : ByteArray) (kind : Int) (he : ∀ n ∈ e, -9223372036854775808 ≤ n ∧ n ≤ 9223372036854775807) :
    AFn Try.prog 4 [intsA e, strA key, strA val, intA kind] (boolA true) := by
  refine AFn_intro Try.func4 rfl Try.ntmps4 rfl (by simp) [_] rfl fun E hE => ?_
  have d9 := acall Try.func15 (a_awake24) (by decide +kernel) (by decide +kernel)
  by_cases k1 : 100 < key.size
  · have k1' : (100 : Int) < (key.size : Nat) := by omega
    refine wM ?_
    exact fin ⟨res_of rfl rfl rfl, trivial⟩
  have k1' : ¬ (100 : Int) < (key.size : Nat) := by omega
  by_cases k2 : 100 < val.size
  · have k2' : (100 : Int) < (val.size : Nat) := by omega
    refine wM ?_
    exact fin ⟨res_of rfl rfl rfl, trivial⟩
  have k2' : ¬ (100 : Int) < (val.size : Nat) := by omega
  have c1 := a_entries e 3000 he
  have hl := entList_lf e 3000
  have hll := entList_len e 3000
  generalize entList e 3000 = l at c1 hl hll
  have c2 := a_mdo l ⟨kind, key, val, 0#64⟩ hl (by omega)
  have c3 := a_ref23large ⟨kind, key, val, 0#64⟩
  have c4 := a_msame l l (by omega)
  rw [decide_eq_true rfl] at c4
  have d1 := acall Try.func9 (c1) (by decide +kernel) (by decide +kernel)
  have d4 := acall Try.func13 (c4) (by decide +kernel) (by decide +kernel)
  have k' : (!true) = false := rfl
  have k'' : (!false) = true := rfl
  by_cases q1 : 8 < key.size
  · have q1' : (8 : Int) < (key.size : Nat) := by omega
    have hL : large ⟨kind, key, val, 0#64⟩ = true := by unfold large; simp [q1]
    unfold mdDo at c2
    rw [hL] at c3
    rw [if_pos hL] at c2
    have d2 := acall Try.func16 (c2) (by decide +kernel) (by decide +kernel)
    have d3 := acall Try.func17 (c3) (by decide +kernel) (by decide +kernel)
    refine wM ?_
    exact fin ⟨res_of rfl rfl rfl, trivial⟩
  have q1' : ¬ (8 : Int) < (key.size : Nat) := by omega
  by_cases q2 : kind = 1
  · by_cases q3 : 16 < val.size
    · have q3' : (16 : Int) < (val.size : Nat) := by omega
      have hL : large ⟨kind, key, val, 0#64⟩ = true := by unfold large; simp [q2, q3]
      unfold mdDo at c2
      rw [hL] at c3
      rw [if_pos hL] at c2
      have d2 := acall Try.func16 (c2) (by decide +kernel) (by decide +kernel)
      have d3 := acall Try.func17 (c3) (by decide +kernel) (by decide +kernel)
      have f1 : decide ((2 : Int) = 2) = decide ((16 : Int) < (val.size : Nat)) := by rw [decide_eq_true q3']; rfl
      have f2 : decide ((16 : Int) < (val.size : Nat)) = true := decide_eq_true q3'
      have f4 : (!decide ((16 : Int) < (val.size : Nat))) = false := by rw [f2]; rfl
      refine wM ?_
      exact fin ⟨res_of rfl rfl rfl, trivial⟩
    · have q3' : ¬ (16 : Int) < (val.size : Nat) := by omega
      have q5 : ¬ kind < 1 := by omega
      have q6 : ¬ 4 < kind := by omega
      have hL : large ⟨kind, key, val, 0#64⟩ = false := by unfold large; simp [q1, q3]
      unfold mdDo at c2
      rw [hL] at c3
      rw [if_neg (by rw [hL]; simp), if_neg (show ¬ kind = 4 by omega), if_neg (show ¬ (kind < 1 ∨ 4 < kind) by omega)] at c2
      have d2 := acall Try.func16 (c2) (by decide +kernel) (by decide +kernel)
      have d3 := acall Try.func17 (c3) (by decide +kernel) (by decide +kernel)
      have f1 : decide ((0 : Int) = 2) = decide ((16 : Int) < (val.size : Nat)) := by rw [decide_eq_false q3']; rfl
      have f2 : decide ((16 : Int) < (val.size : Nat)) = false := decide_eq_false q3'
      have f4 : (!decide ((16 : Int) < (val.size : Nat))) = true := by rw [f2]; rfl
      have f5 : decide ((0 : Int) = 1) = decide (4 < kind) := by rw [decide_eq_false q6]; rfl
      refine wM ?_
      exact fin ⟨res_of rfl rfl rfl, trivial⟩
  have hL : large ⟨kind, key, val, 0#64⟩ = false := by unfold large; simp [q1, q2]
  unfold mdDo at c2
  rw [hL] at c3
  by_cases q4 : kind = 4
  · have q5 : ¬ kind < 1 := by omega
    have q6 : ¬ 4 < kind := by omega
    rw [if_neg (by rw [hL]; simp), if_pos q4] at c2
    have d2 := acall Try.func16 (c2) (by decide +kernel) (by decide +kernel)
    have d3 := acall Try.func17 (c3) (by decide +kernel) (by decide +kernel)
    have f1 : decide ((0 : Int) = 2) = decide (kind = 1) := by rw [decide_eq_false q2]; rfl
    have f2 : decide (kind = 1) = false := decide_eq_false q2
    have f4 : (!decide (kind = 1)) = true := by rw [f2]; rfl
    have f5 : decide ((0 : Int) = 1) = decide (4 < kind) := by rw [decide_eq_false q6]; rfl
    refine wM ?_
    exact fin ⟨res_of rfl rfl rfl, trivial⟩
  by_cases q5 : kind < 1
  · rw [if_neg (by rw [hL]; simp), if_neg q4, if_pos (.inl q5)] at c2
    have d2 := acall Try.func16 (c2) (by decide +kernel) (by decide +kernel)
    have d3 := acall Try.func17 (c3) (by decide +kernel) (by decide +kernel)
    have f1 : decide ((1 : Int) = 2) = decide (kind = 1) := by rw [decide_eq_false q2]; rfl
    have f2 : decide (kind = 1) = false := decide_eq_false q2
    have f4 : (!decide (kind = 1)) = true := by rw [f2]; rfl
    refine wM ?_
    exact fin ⟨res_of rfl rfl rfl, trivial⟩
  by_cases q6 : 4 < kind
  · rw [if_neg (by rw [hL]; simp), if_neg q4, if_pos (.inr q6)] at c2
    have d2 := acall Try.func16 (c2) (by decide +kernel) (by decide +kernel)
    have d3 := acall Try.func17 (c3) (by decide +kernel) (by decide +kernel)
    have f1 : decide ((1 : Int) = 2) = decide (kind = 1) := by rw [decide_eq_false q2]; rfl
    have f2 : decide (kind = 1) = false := decide_eq_false q2
    have f4 : (!decide (kind = 1)) = true := by rw [f2]; rfl
    have f5 : decide ((1 : Int) = 1) = decide (4 < kind) := by rw [decide_eq_true q6]; rfl
    refine wM ?_
    exact fin ⟨res_of rfl rfl rfl, trivial⟩
  rw [if_neg (by rw [hL]; simp), if_neg q4, if_neg (show ¬ (kind < 1 ∨ 4 < kind) by omega)] at c2
  have d2 := acall Try.func16 (c2) (by decide +kernel) (by decide +kernel)
  have d3 := acall Try.func17 (c3) (by decide +kernel) (by decide +kernel)
  have f1 : decide ((0 : Int) = 2) = decide (kind = 1) := by rw [decide_eq_false q2]; rfl
  have f2 : decide (kind = 1) = false := decide_eq_false q2
  have f4 : (!decide (kind = 1)) = true := by rw [f2]; rfl
  have f5 : decide ((0 : Int) = 1) = decide (4 < kind) := by rw [decide_eq_false q6]; rfl
  refine wM ?_
  exact fin ⟨res_of rfl rfl rfl, trivial⟩
theorem modelParts_walk (v0 : Value) (l0 : List (Int)) (v1 : Value) (l1 : List (Int)) (n2 : Int) (w : World) (s0 : Sl ie 1 w v0 l0) (g0 : ∀ n ∈ l0, -9223372036854775808 ≤ n ∧ n ≤ 9223372036854775807) (z0 : l0.length ≤ 17592186043904) (s1 : Sl ie 1 w v1 l1) (g1 : ∀ n ∈ l1, -9223372036854775808 ≤ n ∧ n ≤ 9223372036854775807) (z1 : l1.length ≤ 17592186043904) (b2 : -9223372036854775808 ≤ n2 ∧ n2 ≤ 9223372036854775807) :
    Calls Try.prog 3 #[v0, v1, .int .i64 n2] w (Is w (.bool true)) :=
  law_of (a_modelParts l0 l1 n2 g0 g1 b2) (rdp_cons rfl (ints_in s0) (rdp_cons rfl (ints_in s1) (rdp_cons rfl int_in rdp_nil')))
theorem modelLarge_walk (v0 : Value) (l0 : List (Int)) (t1 : ByteArray) (t2 : ByteArray) (n3 : Int) (w : World) (s0 : Sl ie 1 w v0 l0) (g0 : ∀ n ∈ l0, -9223372036854775808 ≤ n ∧ n ≤ 9223372036854775807) (z0 : l0.length ≤ 17592186043904) (z1 : t1.size ≤ maxLen) (z2 : t2.size ≤ maxLen) (b3 : -9223372036854775808 ≤ n3 ∧ n3 ≤ 9223372036854775807) :
    Calls Try.prog 4 #[v0, .string t1, .string t2, .int .i64 n3] w (Is w (.bool true)) :=
  law_of (a_modelLarge l0 t1 t2 n3 g0) (rdp_cons rfl (ints_in s0) (rdp_cons rfl (Rdv_v.2 ⟨rfl, rfl⟩) (rdp_cons rfl (Rdv_v.2 ⟨rfl, rfl⟩) (rdp_cons rfl int_in rdp_nil'))))
end Go.Proofs.Ytofcabhahdecdaa

namespace Go.Proofs.Ytofcabhahdecdaa
open Go Go.RowKit
set_option linter.unusedVariables false
set_option linter.unusedSimpArgs false
set_option maxRecDepth 100000

section
variable {H : Type} {enc : TypeId × Value → H} {P : Program} {w : World} {base : Nat} {spare : Nat → Bool} {held : Bool} {fuel : Nat} {t : TypeId} {cs : List Value} {x : DataW H × List MemPlace}
theorem in_bytes {m : Nat} {e : TypeId} (ht : P.underlying t = some (.array m e)) (he : P.underlying e = some (.int .u8)) (hc : P.cellsOf e = 1) (hct : P.cellsOf t = m) (h : DataW.trod enc P w base spare held fuel t cs = some x) : ∃ b : Vector (BitVec 8) m, cs = (bArr b).toList := by
  obtain ⟨xs, n, _, _, hl, hx, hi⟩ := DataW.trod_array ht h
  rw [hct] at hl
  have each : ∀ i (hi : i < cs.length), ∃ z : Int, cs[i] = .int .u8 z ∧ 0 ≤ z ∧ z ≤ 255 := fun i hil => by
    have h1 := hi i (by omega)
    rw [hc, Nat.mul_one, List.getElem?_eq_getElem (by omega)] at h1
    obtain ⟨z, h2, _, h3⟩ := DataW.trod_int he h1
    rw [List.drop_eq_getElem_cons hil] at h2
    simp only [List.take_succ_cons, List.take_zero, List.cons.injEq, and_true] at h2
    exact ⟨z, h2, bounds_u8 h3⟩
  refine ⟨Vector.ofFn fun i => BitVec.ofInt 8 (intOf (cs.getD i.1 undef)), ?_⟩
  apply List.ext_getElem
  · simp [bArr_size, hl]
  · intro i h1 h2
    obtain ⟨z, h3, h4, h5⟩ := each i h1
    have := bArr_get (Vector.ofFn fun i => BitVec.ofInt 8 (intOf (cs.getD i.1 undef)) : Vector (BitVec 8) m) i (by omega)
    have h6 : (bArr (Vector.ofFn fun i => BitVec.ofInt 8 (intOf (cs.getD i.1 undef)) : Vector (BitVec 8) m)).toList[i]? = some (.int .u8 z) := by
      rw [Array.getElem?_toList, this]
      simp only [Vector.getElem_ofFn, List.getD_eq_getElem?_getD, List.getElem?_eq_getElem h1, Option.getD_some, h3, intOf]
      rw [B8_ofInt _ h4 (by omega)]
    rw [List.getElem?_eq_getElem h2] at h6
    rw [h3]
    exact (Option.some.inj h6).symm
theorem in_i64 (ht : P.underlying t = some (.int .i64)) (h : DataW.trod enc P w base spare held fuel t cs = some x) : ∃ n : Int, cs = [.int .i64 n] ∧ -9223372036854775808 ≤ n ∧ n ≤ 9223372036854775807 := by
  obtain ⟨n, h1, _, h2⟩ := DataW.trod_int ht h
  exact ⟨n, h1, bounds_i64 h2⟩
theorem in_u64 (ht : P.underlying t = some (.int .u64)) (h : DataW.trod enc P w base spare held fuel t cs = some x) : ∃ n : BitVec 64, cs = [.int .u64 (D64 n)] := by
  obtain ⟨n, h1, _, h2⟩ := DataW.trod_int ht h
  have := bounds_u64 h2
  exact ⟨BitVec.ofInt 64 n, by rw [D64_ofInt _ (by omega) (by omega)]; exact h1⟩
theorem row_of_cells {w : World} {b off n : Nat} {c : Array Value} (h : ∀ k, k < n → w.cell? ⟨b, off + k, none⟩ = c[k]?) (hs : c.size = n) (hn : 0 < n) : row? w b off n = some c := by
  have h0 := h 0 hn
  rw [Array.getElem?_eq_getElem (by omega)] at h0
  unfold World.cell? at h0
  split at h0
  · rename_i cs t fr hb
    rw [row_block hb]
    have each : ∀ k, k < n → cs[off + k]? = c[k]? := fun k hk => by
      have h1 := h k hk
      unfold World.cell? at h1
      simp only [hb, Option.isSome_none, Bool.false_eq_true, if_false] at h1
      exact h1
    have hlast := each (n - 1) (by omega)
    rw [Array.getElem?_eq_getElem (show n - 1 < c.size by omega)] at hlast
    have hlt := (Array.getElem?_eq_some_iff.1 hlast).1
    unfold rowOf
    rw [if_pos (by omega)]
    congr 1
    apply Array.ext_getElem?
    intro k
    rw [Array.getElem?_extract]
    by_cases hk : k < n
    · rw [if_pos (by omega)]; exact each k hk
    · rw [if_neg (by omega), Array.getElem?_eq_none (by omega)]
  · cases h0
/-- whatever the elements: a slice of them -/
theorem in_sliceG {α : Type} [Inhabited α] {e : TypeId} {n : Nat} {arr : α → Array Value} (he : EncOk arr n) (Q : α → Prop) (ht : P.underlying t = some (.slice e)) (hc : P.cellsOf e = n) (each : ∀ {fuel : Nat} {cs : List Value} {x : DataW H × List MemPlace}, DataW.trod enc P w base spare held fuel e cs = some x → ∃ a : α, cs = (arr a).toList ∧ Q a)
    (h : DataW.trod enc P w base spare held fuel t cs = some x) : ∃ v xs, cs = [v] ∧ Sl arr n w v xs ∧ ∀ a ∈ xs, Q a := by
  rcases Go.Deep.open_slice ht h with ⟨h1, _⟩ | ⟨a, len, cap, m, nn, Da, Pl, rfl, hb, hl, hm, hmm, _, hx⟩
  · exact ⟨_, [], h1, Sl.nil _ _ _, fun a h => by cases h⟩
  · rw [hc] at hx
    have hlm : len ≤ m := by rw [hmm]; split <;> omega
    obtain ⟨f, hf⟩ := Go.Deep.choose_lt (α := α) (p := fun i y => w.cells? base (a.add (i * n)) n = some (arr y).toList ∧ Q y) (n := len) (fun i hi => by
      obtain ⟨cs', k1, k2⟩ := hx i (by omega)
      obtain ⟨y, rfl, hq⟩ := each k2
      exact ⟨y, k1, hq⟩)
    refine ⟨_, (List.range len).map f, rfl, ⟨some a, cap, by simp, by simpa using hl, hm, fun h0 => ?_⟩, fun y hy => ?_⟩
    · have hsz := fun y => he.size y
      have hpos := he.pos
      obtain ⟨b, off, spot⟩ := a
      have h0' : 0 < len := by simpa using h0
      have hc0 := (World.cells?_some (hf 0 h0').1).2.2 0 (by omega)
      rw [Array.getElem?_toList, Array.getElem?_eq_getElem (by rw [hsz]; omega)] at hc0
      have hspot : spot = none := by simpa [Addr.add] using World.cell?_spot hc0
      subst hspot
      have hadd : ∀ o k, (⟨b, o, none⟩ : Addr).add k = ⟨b, o + k, none⟩ := fun o k => by unfold Addr.add; split <;> simp_all
      have hb' : b < w.heap.size := by
        have := block_lt_of_cell hc0
        simpa [hadd] using this
      refine ⟨b, off, rfl, hb', fun i hi => ?_⟩
      have hi' : i < len := by simpa using hi
      have h1 := (World.cells?_some (hf i hi').1).2.2
      simp only [List.getElem_map, List.getElem_range]
      refine row_of_cells (fun k hk => ?_) (hsz _) hpos
      have := h1 k hk
      rw [hadd, hadd] at this
      rw [this, Array.getElem?_toList]
    · obtain ⟨i, hi, rfl⟩ := List.mem_map.1 hy
      exact (hf i (List.mem_range.1 hi)).2
theorem in_slice {α : Type} [Inhabited α] (D : DT α) (Q : α → Prop) (ht : P.underlying t = some (.slice D.t)) (hc : P.cellsOf D.t = D.n) (each : ∀ {fuel : Nat} {cs : List Value} {x : DataW H × List MemPlace}, DataW.trod enc P w base spare held fuel D.t cs = some x → ∃ a : α, cs = (D.arr a).toList ∧ Q a)
    (h : DataW.trod enc P w base spare held fuel t cs = some x) : ∃ v xs, cs = [v] ∧ Sl D.arr D.n w v xs ∧ ∀ a ∈ xs, Q a := in_sliceG D.enc Q ht hc each h
end
section
variable {H : Type} {enc : TypeId × Value → H} {w : World} {base : Nat} {spare : Nat → Bool} {held : Bool} {fuel : Nat} {cs : List Value} {x : DataW H × List MemPlace}
theorem in_Key (h : DataW.trod enc Try.prog w base spare held fuel 52 cs = some x) : ∃ k : Key, cs = k.arr.toList ∧ -9223372036854775808 ≤ k.n ∧ k.n ≤ 9223372036854775807 := by
  obtain ⟨y0, y1, n, _, hl, h0, h1⟩ := Go.ChangeShapes.trod_struct2 Try.underlying52 h
  obtain ⟨z, e0, hz⟩ := in_i64 Try.underlying3 h0
  obtain ⟨b, e1⟩ := in_bytes (m := 8) Try.underlying50 Try.underlying5 (by kernel_rfl) (by kernel_rfl) h1
  have hl' : cs.length = 9 := hl.trans (by kernel_rfl)
  refine ⟨⟨z, b⟩, ?_, hz⟩
  rw [show Try.prog.cellsOf 3 = 1 from by kernel_rfl, List.drop_zero] at e0
  rw [show Try.prog.cellsOf 50 = 8 from by kernel_rfl] at e1
  rw [List.take_of_length_le (by simp; omega)] at e1
  rw [← List.take_append_drop 1 cs, e0, e1, Key.arr_def, cat_def, cel_def]
  simp
theorem in_Vl (h : DataW.trod enc Try.prog w base spare held fuel 41 cs = some x) : ∃ k : Vl, cs = k.arr.toList ∧ -9223372036854775808 ≤ k.n ∧ k.n ≤ 9223372036854775807 := by
  obtain ⟨y0, y1, n, _, hl, h0, h1⟩ := Go.ChangeShapes.trod_struct2 Try.underlying41 h
  obtain ⟨z, e0, hz⟩ := in_i64 Try.underlying3 h0
  obtain ⟨b, e1⟩ := in_bytes (m := 16) Try.underlying39 Try.underlying5 (by kernel_rfl) (by kernel_rfl) h1
  have hl' : cs.length = 17 := hl.trans (by kernel_rfl)
  refine ⟨⟨z, b⟩, ?_, hz⟩
  rw [show Try.prog.cellsOf 3 = 1 from by kernel_rfl, List.drop_zero] at e0
  rw [show Try.prog.cellsOf 39 = 16 from by kernel_rfl] at e1
  rw [List.take_of_length_le (by simp; omega)] at e1
  rw [← List.take_append_drop 1 cs, e0, e1, Vl.arr_def, cat_def, cel_def]
  simp
theorem in_Ent (h : DataW.trod enc Try.prog w base spare held fuel 70 cs = some x) : ∃ k : Ent, cs = k.arr.toList ∧ (-9223372036854775808 ≤ k.key.n ∧ k.key.n ≤ 9223372036854775807) ∧ (-9223372036854775808 ≤ k.val.n ∧ k.val.n ≤ 9223372036854775807) := by
  obtain ⟨y0, y1, n, _, hl, h0, h1⟩ := Go.ChangeShapes.trod_struct2 Try.underlying70 h
  obtain ⟨k, e0, hk⟩ := in_Key h0
  obtain ⟨v, e1, hv⟩ := in_Vl h1
  have hl' : cs.length = 26 := hl.trans (by kernel_rfl)
  refine ⟨⟨k, v⟩, ?_, hk, hv⟩
  rw [show Try.prog.cellsOf 52 = 9 from by kernel_rfl, List.drop_zero] at e0
  rw [show Try.prog.cellsOf 41 = 17 from by kernel_rfl] at e1
  rw [List.take_of_length_le (by simp; omega)] at e1
  rw [← List.take_append_drop 9 cs, e0, e1, Ent.arr_def, cat_def]
  simp
theorem in_Msg (h : DataW.trod enc Try.prog w base spare held fuel 63 cs = some x) : ∃ k : Msg, cs = k.arr.toList ∧ (-9223372036854775808 ≤ k.kind ∧ k.kind ≤ 9223372036854775807) := by
  obtain ⟨ys, n, _, _, hl, hys, hf⟩ := DataW.trod_struct Try.underlying63 h
  have hys' : ys.length = 5 := hys
  match ys, hys' with
  | [y0, y1, y2, y3, y4], _ =>
    obtain ⟨k0, e0, hk⟩ := in_i64 Try.underlying3 (show DataW.trod enc Try.prog w base spare held n 3 ((cs.drop 0).take (Try.prog.cellsOf 3)) = some y0 from hf 0 _ rfl)
    obtain ⟨k1, e1⟩ := in_u64 Try.underlying35 (show DataW.trod enc Try.prog w base spare held n 35 ((cs.drop 1).take (Try.prog.cellsOf 35)) = some y1 from hf 1 _ rfl)
    obtain ⟨k2, e2, _⟩ := in_Key (show DataW.trod enc Try.prog w base spare held n 52 ((cs.drop 2).take (Try.prog.cellsOf 52)) = some y2 from hf 2 _ rfl)
    obtain ⟨k3, e3, _⟩ := in_Vl (show DataW.trod enc Try.prog w base spare held n 41 ((cs.drop 11).take (Try.prog.cellsOf 41)) = some y3 from hf 3 _ rfl)
    obtain ⟨k4, e4⟩ := in_u64 Try.underlying35 (show DataW.trod enc Try.prog w base spare held n 35 ((cs.drop 28).take (Try.prog.cellsOf 35)) = some y4 from hf 4 _ rfl)
    have hl' : cs.length = 29 := hl.trans (by kernel_rfl)
    refine ⟨⟨k0, k1, k2, k3, k4⟩, ?_, hk⟩

    rw [show Try.prog.cellsOf 3 = 1 from by kernel_rfl, List.drop_zero] at e0
    rw [show Try.prog.cellsOf 35 = 1 from by kernel_rfl] at e1 e4
    rw [show Try.prog.cellsOf 52 = 9 from by kernel_rfl] at e2
    rw [show Try.prog.cellsOf 41 = 17 from by kernel_rfl] at e3
    have d1 : cs = cs.take 1 ++ ((cs.drop 1).take 1 ++ ((cs.drop 2).take 9 ++ ((cs.drop 11).take 17 ++ (cs.drop 28).take 1))) := by
      have sp : ∀ i n, cs.drop i = (cs.drop i).take n ++ cs.drop (i + n) := fun i n => by
        rw [← List.drop_drop]; exact (List.take_append_drop _ _).symm
      have s4 : (cs.drop 28).take 1 = cs.drop 28 := List.take_of_length_le (by simp; omega)
      rw [s4, ← sp 11 17, ← sp 2 9, ← sp 1 1, List.take_append_drop]
    rw [d1, e0, e1, e2, e3, e4, Msg.arr_def]
    simp only [cat_def, cel_def]
    simp
end
instance : Inhabited Key := ⟨Key.zero⟩
instance : Inhabited Vl := ⟨Vl.zero⟩
instance : Inhabited Ent := ⟨Ent.zero⟩
instance : Inhabited Msg := ⟨Msg.zero⟩
/-- a slice of structs that is handed in, as the law's frame has it -/
theorem in_structs {α : Type} [Inhabited α] (D : DT α) (Q : α → Prop) {H : Type} {enc : TypeId × Value → H} {w : World} {base : Nat} {spare : Nat → Bool} {held : Bool} {t : TypeId} {v : Value} {d : DataW H} {ps : List MemPlace} (ht : Try.prog.underlying t = some (.slice D.t)) (hc : Try.prog.cellsOf D.t = D.n)
    (each : ∀ {fuel : Nat} {cs : List Value} {x : DataW H × List MemPlace}, DataW.trod enc Try.prog w base spare held fuel D.t cs = some x → ∃ a : α, cs = (D.arr a).toList ∧ Q a) (h : DataW.Trod enc Try.prog w base spare held t v d ps) (hv : ∃ A len cap, v = .slice A len cap) :
    ∃ xs, Sl D.arr D.n w v xs ∧ ∀ a ∈ xs, Q a := by
  obtain ⟨fuel, hf⟩ := h
  obtain ⟨u, xs, h1, h2, h3⟩ := in_slice D Q ht hc each hf
  obtain ⟨A, len, cap, rfl⟩ := hv
  simp only [Value.cells, List.cons.injEq, and_true] at h1
  subst h1
  exact ⟨xs, h2, h3⟩
end Go.Proofs.Ytofcabhahdecdaa

namespace Go.Proofs.Ytofcabhahdecdaa
open Go Go.RowKit
set_option linter.unusedVariables false
set_option linter.unusedSimpArgs false
set_option maxRecDepth 100000

/-! ### a Get changes nothing -/
theorem mdDo_get (l : List Ent) {o : Opn} (h : o.kind = 4) : (mdDo l o).1 = l := by
  unfold mdDo
  split
  · rfl
  · first | rfl | (rw [if_pos h])
def notGet (o : Opn) : Bool := decide (o.kind ≠ 4)
theorem run_less : ∀ (ops : List Opn) (l : List Ent), (mdRun l ops).1 = (mdRun l (ops.filter notGet)).1
  | [], l => rfl
  | o :: ops, l => by
    have e : ∀ (l : List Ent) (o : Opn) (ops : List Opn), (mdRun l (o :: ops)).1 = (mdRun (mdDo l o).1 ops).1 := fun l o ops => by
      have := mdRun_append l [o] ops
      rw [List.singleton_append] at this
      rw [this]; rfl
    rw [e, List.filter_cons]
    by_cases h : o.kind = 4
    · have hn : notGet o = false := by simp [notGet, h]
      rw [hn, mdDo_get l h]
      exact run_less ops l
    · have hn : notGet o = true := by simp [notGet, h]
      rw [hn, if_pos rfl, e]
      exact run_less ops _
theorem mdRun_cons (l : List Ent) (o : Opn) (ops : List Opn) : mdRun l (o :: ops) = ((mdRun (mdDo l o).1 ops).1, (mdDo l o).2 :: (mdRun (mdDo l o).1 ops).2) := by
  have := mdRun_append l [o] ops
  rw [List.singleton_append] at this
  rw [this]; rfl
theorem mdRun_nlen : ∀ (ops : List Opn) (l : List Ent), (mdRun l ops).2.length = ops.length
  | [], l => rfl
  | o :: ops, l => by rw [mdRun_cons]; simp [mdRun_nlen ops]
/-- an answer to what is no Get -/
def plainAns (a : Ans) : Prop := a.found = false ∧ (a.code = 0 ∨ a.code = 2)
theorem ans_plain (l : List Ent) {o : Opn} (h1 : 1 ≤ o.kind) (h3 : o.kind ≤ 3) : plainAns (mdDo l o).2 := by
  unfold mdDo
  split
  · exact ⟨rfl, .inr rfl⟩
  · rw [if_neg (by omega), if_neg (by omega)]
    exact ⟨rfl, .inl rfl⟩
theorem run_plain : ∀ (ops : List Opn) (l : List Ent), (∀ o ∈ ops, 1 ≤ o.kind ∧ o.kind ≤ 3) → ∀ a ∈ (mdRun l ops).2, plainAns a
  | [], l, _, a, h => by cases h
  | o :: ops, l, hk, a, h => by
    rw [mdRun_cons] at h
    rcases List.mem_cons.1 h with rfl | h
    · exact ans_plain l (hk o List.mem_cons_self).1 (hk o List.mem_cons_self).2
    · exact run_plain ops _ (fun o ho => hk o (List.mem_cons_of_mem _ ho)) a h
theorem lawOp_kind (v : Int) : 1 ≤ (lawOp v).kind ∧ (lawOp v).kind ≤ 4 := by
  have h0 := Int.emod_nonneg (v % 1099511627776) (show (4 : Int) ≠ 0 by omega)
  have h1 := Int.emod_lt_of_pos (v % 1099511627776) (show (0 : Int) < 4 by omega)
  unfold lawOp
  dsimp only
  omega
theorem rows_kind (l : List Int) : ∀ o ∈ lawRows l, 1 ≤ o.kind ∧ o.kind ≤ 4 := fun o ho => by
  obtain ⟨v, _, rfl⟩ := List.mem_map.1 ho
  exact lawOp_kind v
theorem less_kind (l : List Int) : ∀ o ∈ (lawRows l).filter notGet, 1 ≤ o.kind ∧ o.kind ≤ 3 := fun o ho => by
  obtain ⟨h1, h2⟩ := List.mem_filter.1 ho
  have := rows_kind l o h1
  simp only [notGet, decide_eq_true_eq] at h2
  omega
/-! ### other keys -/
theorem bits_inj {a b : ByteArray} (h : bitsOf a = bitsOf b) : a = b := by rw [← bytes_bits a, ← bytes_bits b, h]
theorem keyOf_inj {a b : ByteArray} (ha : a.size ≤ 8) (hb : b.size ≤ 8) (h : (keyOf a).1 = (keyOf b).1) : a = b := by
  unfold keyOf at h
  rw [if_pos ha, if_pos hb] at h
  have := congrArg Key.txt h
  rw [mkKey_txt _ (by rw [bitsOf_length]; exact ha), mkKey_txt _ (by rw [bitsOf_length]; exact hb)] at this
  exact bits_inj this
/-- two maps that agree at a key, the second one having no other -/
structure OwnK1 (K : Key) (l1 l2 : List Ent) : Prop where
  lf : Lf l1
  lf2 : Lf l2
  is : l2 = newE K (lfGet K l1)
theorem OwnK1.get {K : Key} {l1 l2 : List Ent} (h : OwnK1 K l1 l2) : lfGet K l2 = lfGet K l1 := by
  rw [h.is]
  cases hg : lfGet K l1 with
  | none => rfl
  | some v => exact get_one K v
theorem OwnK1.len {K : Key} {l1 l2 : List Ent} (h : OwnK1 K l1 l2) : l2.length ≤ 1 := by
  rw [h.is]; cases lfGet K l1 <;> simp [newE]
theorem set_new (K : Key) (o o' : Option Vl) : lfSet (newE K o) K o' = newE K o' := by
  cases o with
  | none => exact set_none K o'
  | some v => exact set_one K v o'
theorem OwnK1.same {k : ByteArray} (hk : k.size ≤ 8) {l1 l2 : List Ent} (h : OwnK1 (keyOf k).1 l1 l2) {o : Opn} (ho : o.key = k) : (mdDo l1 o).2 = (mdDo l2 o).2 ∧ OwnK1 (keyOf k).1 (mdDo l1 o).1 (mdDo l2 o).1 := by
  have hg := h.get
  unfold mdDo
  split
  · exact ⟨rfl, h⟩
  · rw [ho]
    split
    · rw [hg]; exact ⟨rfl, h⟩
    · split
      · exact ⟨rfl, h⟩
      · rename_i n4 nr
        have hm : (msgOf o).ok = true := msgOf_ok (by omega) (by omega)
        have hmk : (msgOf o).key = (keyOf k).1 := by unfold msgOf; rw [ho]
        refine ⟨rfl, lf_put h.lf hm, lf_put h.lf2 hm, ?_⟩
        rw [get_put h.lf hm (keyOf_ok _), if_pos hmk.symm]
        unfold lfPut
        rw [hmk, hg, h.is, set_new]
theorem OwnK1.other {k : ByteArray} (hk : k.size ≤ 8) {l1 l2 : List Ent} (h : OwnK1 (keyOf k).1 l1 l2) {o : Opn} (ho : o.key ≠ k) : OwnK1 (keyOf k).1 (mdDo l1 o).1 l2 := by
  unfold mdDo
  split
  · exact h
  · rename_i hl
    have hs := (large_false (by simpa using hl)).1
    split
    · exact h
    · split
      · exact h
      · have hm : (msgOf o).ok = true := msgOf_ok (by omega) (by omega)
        refine ⟨lf_put h.lf hm, h.lf2, ?_⟩
        rw [get_put h.lf hm (keyOf_ok _), if_neg (fun e => ho (keyOf_inj hs hk e.symm))]
        exact h.is
def isKey (k : ByteArray) (o : Opn) : Bool := decide (o.key = k)
theorem own_run {k : ByteArray} (hk : k.size ≤ 8) : ∀ (ops : List Opn) {l1 l2 : List Ent}, OwnK1 (keyOf k).1 l1 l2 → OwnK1 (keyOf k).1 (mdRun l1 ops).1 (mdRun l2 (ops.filter (isKey k))).1
  | [], l1, l2, h => h
  | o :: ops, l1, l2, h => by
    rw [mdRun_cons, List.filter_cons]
    by_cases ho : o.key = k
    · rw [if_pos (by simp [isKey, ho]), mdRun_cons]
      exact own_run hk ops (h.same hk ho).2
    · rw [if_neg (by simp [isKey, ho])]
      exact own_run hk ops (h.other hk ho)
theorem mdRun_at : ∀ (ops : List Opn) (l : List Ent) (i : Nat) (h : i < ops.length), (mdRun l ops).2[i]? = some (mdDo (mdRun l (ops.take i)).1 ops[i]).2
  | o :: ops, l, 0, h => by rw [mdRun_cons]; rfl
  | o :: ops, l, i + 1, h => by
    have h' : i < ops.length := by simpa using h
    rw [mdRun_cons, List.take_succ_cons, mdRun_cons]
    simpa using mdRun_at ops (mdDo l o).1 i h'
/-- how many of a key's operations stand ahead of place i -/
def ownAt (k : ByteArray) (ops : List Opn) (i : Nat) : Nat := ((ops.take i).filter (isKey k)).length
theorem ownAt_step (k : ByteArray) (ops : List Opn) (i : Nat) (h : i < ops.length) : ownAt k ops (i + 1) = ownAt k ops i + if ops[i].key = k then 1 else 0 := by
  unfold ownAt
  rw [← List.take_append_getElem h, List.filter_append, List.length_append]
  congr 1
  by_cases c : ops[i].key = k
  · simp [isKey, c]
  · simp [isKey, c]
theorem own_split (k : ByteArray) (ops : List Opn) (i : Nat) (h : i < ops.length) (c : ops[i].key = k) : ops.filter (isKey k) = (ops.take i).filter (isKey k) ++ (ops[i] :: (ops.drop (i + 1)).filter (isKey k)) := by
  conv => lhs; rw [← List.take_append_drop i ops, List.drop_eq_getElem_cons h]
  rw [List.filter_append, List.filter_cons, if_pos (by simp [isKey, c])]
theorem own_ans {k : ByteArray} (hk : k.size ≤ 8) (ops : List Opn) (i : Nat) (h : i < ops.length) (c : ops[i].key = k) :
    ownAt k ops i < (ops.filter (isKey k)).length ∧ (mdRun [] ops).2[i]? = (mdRun [] (ops.filter (isKey k))).2[ownAt k ops i]? := by
  have hs := own_split k ops i h c
  have hlt : ownAt k ops i < (ops.filter (isKey k)).length := by rw [hs]; unfold ownAt; simp
  refine ⟨hlt, ?_⟩
  rw [mdRun_at _ _ _ h, mdRun_at _ _ _ hlt]
  have e1 : (ops.filter (isKey k)).take (ownAt k ops i) = (ops.take i).filter (isKey k) := by rw [hs]; unfold ownAt; simp
  have e2 : (ops.filter (isKey k))[ownAt k ops i] = ops[i] := by
    have : (ops.filter (isKey k))[ownAt k ops i]? = some ops[i] := by rw [hs]; unfold ownAt; simp
    rw [List.getElem?_eq_getElem hlt] at this
    exact Option.some.inj this
  rw [e1, e2]
  have o0 : OwnK1 (keyOf k).1 [] [] := ⟨lf_nil, lf_nil, rfl⟩
  rw [((own_run hk (ops.take i) o0).same hk c).1]
/-! ### Adds -/
def addOp (k : ByteArray) (b : BitVec 64) : Opn := ⟨3, k, .empty, b⟩
def delOp (k : ByteArray) : Opn := ⟨2, k, .empty, 0#64⟩
theorem vplus_fromN (a b : BitVec 64) : vplus (fromN a) b = fromN (a + b) := by unfold vplus; rw [numOf_from]
theorem do_add (k : ByteArray) (hk : k.size ≤ 8) (o : Option (BitVec 64)) (b : BitVec 64) : (mdDo (newE (keyOf k).1 (o.map fromN)) (addOp k b)).1 = newE (keyOf k).1 (some (fromN (o.getD 0#64 + b))) := by
  unfold mdDo large addOp
  rw [if_neg (by simp; omega), if_neg (by simp), if_neg (by simp)]
  unfold lfPut msgOf
  simp only [set_new]
  congr 1
  cases o with
  | none => simp [ap, newE, lfGet]
  | some a =>
    simp only [Option.map_some, Option.getD_some, newE, get_one]
    show (match some (fromN a) with | some v => some (vplus v b) | none => some (fromN b)) = _
    simp only [vplus_fromN]
theorem run_adds (k : ByteArray) (hk : k.size ≤ 8) : ∀ (bs : List (BitVec 64)) (o : Option (BitVec 64)), (mdRun (newE (keyOf k).1 (o.map fromN)) (bs.map (addOp k))).1 = newE (keyOf k).1 ((if bs = [] then o else some (bs.foldl (· + ·) (o.getD 0#64))).map fromN)
  | [], o => rfl
  | b :: bs, o => by
    rw [List.map_cons, mdRun_cons, do_add k hk o b]
    have := run_adds k hk bs (some (o.getD 0#64 + b))
    rw [Option.map_some] at this
    simp only
    rw [this]
    by_cases hb : bs = []
    · subst hb; rfl
    · rw [if_neg hb, if_neg (by simp)]; rfl
theorem do_del (k : ByteArray) (hk : k.size ≤ 8) (o : Option (BitVec 64)) : (mdDo (newE (keyOf k).1 (o.map fromN)) (delOp k)).1 = [] := by
  unfold mdDo large delOp
  rw [if_neg (by simp; omega), if_neg (by simp), if_neg (by simp)]
  unfold lfPut msgOf
  simp only [set_new]
  rfl
theorem sum_from (bs : List (BitVec 64)) : ∀ x : BitVec 64, bs.foldl (· + ·) x = x + bs.foldl (· + ·) 0#64 := by
  induction bs with
  | nil => intro x; simp
  | cons b bs ih =>
    intro x
    rw [List.foldl_cons, List.foldl_cons, ih (x + b), ih (0#64 + b), BitVec.zero_add, BitVec.add_assoc]
theorem sum_turn (a b : List (BitVec 64)) : (b ++ a).foldl (· + ·) 0#64 = (a ++ b).foldl (· + ·) 0#64 := by
  rw [List.foldl_append, List.foldl_append, sum_from a, sum_from b (a.foldl _ _), BitVec.add_comm]
end Go.Proofs.Ytofcabhahdecdaa

namespace Go.Proofs.Ytofcabhahdecdaa
open Go Go.RowKit
set_option linter.unusedVariables false
set_option linter.unusedSimpArgs false
set_option maxRecDepth 100000

section
variable {E : Env} {nt : Nat} {ops : Array Oper} {T : Nat → Option AV} {H : Hp} {d : Option Nat} {ty : TypeId} {pos : String} {af : Array Edge} {gd : Option (Nat × Bool)}
theorem o_eqs {t t' : TypeId} {x y : Operand} {a b : ByteArray} (hd : dOk nt d = true) (hx : evalO T x = some (.v (.string a))) (hy : evalO T y = some (.v (.string b))) : OpOK Try.prog E nt ops ⟨d, .binOp .eql t x y t', ty, pos, af, gd⟩ T H [] ⟨.v (.bool (decide (a = b))), []⟩ :=
  ok_bin hd hx hy (fun w => by
    have e : decide (a = b) = (a == b) := by rw [Bool.eq_iff_iff, beq_bytes, decide_eq_true_eq]
    simp only [eqGuard, binOp, Op.stringOp, Sem.run_bind, beq_toListBytes, e]
    rfl) rfl
end
theorem wK {Q R : Prop} (k : R) (h : Hid R → Q := by intro kHid; (repeat (first | (first | refine Wend _ ?_ | refine AW_seq ?_ | refine AW_reg ?_ | refine AW_drw mixed ?_ | refine AW_block ?_ | refine AW_scope ?_ | refine thenA_n ?_ | refine blockA_n ?_ | refine blockA_h ?_ | refine scopeA_n ?_ | refine thenA_r ?_ | refine blockA_r ?_ | refine scopeA_r ?_ | refine thenA_e ?_ | refine scopeA_e ?_ | refine blockA_e rfl ?_ | refine AW_exit ?_ | refine AW_ret ?_ | refine AW_skip ?_ | refine AW_c rfl ?_ | with_reducible refine cb_t ?_ | with_reducible refine cb_f ?_ | with_reducible refine cb_yes (by first | assumption | omega) ?_ | with_reducible refine cb_no (by first | assumption | omega) ?_ | refine And.intro (by decide +kernel) ?_) | (first | (apply Wv; (focus (first | exact step_ok rfl rfl | exact o_idx rfl rfl rfl rfl (by first | assumption | omega | decide) | exact o_idx3 rfl rfl rfl rfl (by first | assumption | omega | decide) | exact o_idx2 rfl rfl rfl rfl rfl (by first | assumption | omega | decide) | exact o_idxr rfl rfl rfl rfl rfl rfl | exact o_lenm rfl rfl rfl | exact o_len rfl rfl rfl | exact o_len0 rfl rfl rfl | exact o_lens rfl rfl rfl | exact o_lent rfl rfl | exact o_add1 rfl rfl rfl (by omega) | exact o_addn rfl rfl rfl (by omega) | exact o_add rfl rfl rfl (by omega) | exact o_sub1 rfl rfl rfl (by omega) | exact o_sub rfl rfl rfl (by omega) | exact o_mul rfl rfl rfl (by omega) | exact o_rem rfl rfl rfl (by omega) | exact ok_rem rfl rfl rfl (by decide) rfl | exact o_eqKey rfl rfl rfl | exact o_neKey rfl rfl rfl | exact o_eqVl rfl rfl rfl | exact o_neVl rfl rfl rfl | exact o_eqEnt rfl rfl rfl | exact o_neEnt rfl rfl rfl | exact o_eqMsg rfl rfl rfl | exact o_neMsg rfl rfl rfl | exact o_acall rfl rfl rfl rfl (by assumption) | exact o_minn rfl rfl rfl | exact o_cutl rfl rfl rfl rfl (by omega) | exact o_cuth rfl rfl rfl rfl (by omega) | exact o_cutl3 rfl rfl rfl rfl (by omega) | exact o_cuth3 rfl rfl rfl rfl (by omega) | exact o_cutl2 rfl rfl rfl rfl rfl (by omega) | exact o_cuth2 rfl rfl rfl rfl rfl (by omega) | exact o_cutlh2 rfl rfl rfl rfl rfl rfl rfl (by omega) (by omega) | exact o_bld zero_Opn rfl rfl rfl rfl rfl rfl rfl | exact o_bld zero_Ans rfl rfl rfl rfl rfl rfl rfl | exact o_eqs rfl rfl rfl | exact o_eqAns rfl rfl rfl | exact o_neAns rfl rfl rfl | exact e_bld rfl rfl rfl | exact e_bldk rfl rfl | exact z_bld0 rfl rfl rfl rfl rfl | exact z_bld rfl rfl rfl rfl rfl rfl rfl | exact o_addu rfl rfl rfl | exact z_blda rfl rfl rfl rfl rfl rfl rfl rfl rfl | exact o_idxa rfl rfl rfl rfl rfl rfl | exact o_idxra rfl rfl rfl rfl rfl rfl rfl | exact o_quo2 rfl rfl rfl (by omega) | exact o_quo rfl rfl rfl (by omega))); (focus (first | exact want_n | exact want_g rfl (by with_reducible rfl)))) | (apply Wb; (focus (first | exact o_box rfl rfl rfl rfl | exact o_app rfl rfl rfl rfl rfl (by first | exact o_many rfl | exact o_one _ _ rfl) (by first | omega | (simp; omega) | simp) (by first | omega | (simp; omega) | simp) | exact o_appn rfl rfl rfl rfl rfl (by first | exact o_many rfl | exact o_one _ _ rfl) (by first | omega | (simp; omega) | simp) (by first | omega | (simp; omega) | simp) | exact o_app1 rfl rfl rfl rfl rfl (by first | exact o_many rfl | exact o_one _ _ rfl) (by exact rfl) (by first | omega | (simp; omega) | simp) (by first | omega | (simp; omega) | simp) | exact o_app0 rfl rfl rfl rfl rfl (by first | exact o_many rfl | exact o_one _ _ rfl) (by first | omega | (simp; omega) | simp) (by first | omega | (simp; omega) | simp) | exact o_bsl0 rfl rfl rfl | exact z_bsll rfl rfl rfl rfl rfl rfl rfl rfl rfl | exact z_alloc rfl rfl rfl | exact o_alloc zero_Opn rfl rfl | exact o_alloc zero_Ans rfl rfl | exact o_bsll zero_Ans rfl rfl rfl rfl rfl rfl rfl rfl | exact o_bsll zero_Opn rfl rfl rfl rfl rfl rfl rfl rfl)); (focus (first | exact want_n | exact want_g rfl (by with_reducible rfl)))) | (apply Ws; (focus (exact ok_store tabT (d := none) rfl rfl rfl rfl rfl rfl rfl rfl rfl rfl)); (focus (first | exact want_n | exact want_g rfl (by with_reducible rfl)))) | (refine Wskip (by first | exact want_f rfl (by with_reducible exact b_nt) | exact want_f rfl (by with_reducible exact b_nf) | exact want_t rfl) rfl ?_) | refine Wgt rfl rfl (by first | assumption | omega | exact rfl) ?_ | refine Wgf rfl rfl (by first | assumption | omega | exact rfl) ?_ | (refine Wgb rfl rfl (by with_reducible assumption) ?_) | (refine cb_is _ (by assumption) ?_)))); exact kHid.out) : Q := h ⟨k⟩
theorem take_filter (row : List Opn) (p : Opn → Bool) (j : Nat) (h : j < row.length) : (row.take (j + 1)).filter p = (row.take j).filter p ++ if p row[j] then [row[j]] else [] := by
  rw [← List.take_append_getElem h, List.filter_append]
  congr 1
  simp [List.filter_cons]
attribute [local irreducible] OpOK AWops AW CondB Go2 AFn thenA inBlockA noGotoA orderOk wantedA
set_option maxRecDepth 100000 in
set_option maxHeartbeats 8000000 in
theorem a_modelGets (e ops : List Int) (key : Int) (he : ∀ n ∈ e, -9223372036854775808 ≤ n ∧ n ≤ 9223372036854775807) (hops : ∀ n ∈ ops, -9223372036854775808 ≤ n ∧ n ≤ 9223372036854775807) (hkey : -9223372036854775808 ≤ key ∧ key ≤ 9223372036854775807) :
    AFn Try.prog 8 [intsA e, intsA ops, intA key] (boolA true) := by
  refine AFn_intro Try.func8 rfl Try.ntmps8 rfl (by simp) [_] rfl fun E hE => ?_
  have c1 := a_entries e 3000 he
  have hl := entList_lf e 3000
  have hll := entList_len e 3000
  generalize entList e 3000 = l at c1 hl hll
  have c2 := a_rows ops hops
  have hr := lawRows_len ops
  have hkd := less_kind ops
  generalize lawRows ops = row at c2 hr hkd
  have c3 := a_lkey key hkey
  have c4 := a_reftext (lawKey key)
  have hk : (bytesOf (lawKey key).txt).size ≤ 8 := by rw [bytesOf_size]; exact Key.txt_length _
  generalize bytesOf (lawKey key).txt = k at c4 hk
  have hL : large ⟨4, k, .empty, 0#64⟩ = false := by unfold large; simp; omega
  have c5 := a_mdo l ⟨4, k, .empty, 0#64⟩ hl (by omega)
  unfold mdDo at c5
  rw [if_neg (by rw [hL]; simp), if_pos rfl] at c5
  have c6 := a_mfind l k hl (by omega)
  unfold mdFind at c6
  rw [if_pos hk] at c6
  generalize opA (lfGet (keyOf k).1 l) = VF at c5 c6
  obtain ⟨V, fd⟩ := VF
  have c7 := a_mrun l row hl (by omega) (by omega)
  have hfl : (row.filter notGet).length ≤ row.length := List.length_filter_le _ _
  have c8 := a_mrun l (row.filter notGet) hl (by omega) (by omega)
  rw [run_less row l] at c7
  have hpl := run_plain (row.filter notGet) l hkd
  have hnl := mdRun_nlen (row.filter notGet) l
  have hxl := (mdRun_len l (row.filter notGet)).1
  generalize (mdRun l row).2 = Z at c7
  generalize mdRun l (row.filter notGet) = R at c7 c8 hpl hnl hxl
  have c9 := a_msame l l (by omega)
  rw [decide_eq_true rfl] at c9
  have c10 := a_msame R.1 R.1 (by omega)
  rw [decide_eq_true rfl] at c10
  have k' : (!true) = false := rfl
  have k'' : (!false) = true := rfl
  have d1 := acall Try.func9 (c1) (by decide +kernel) (by decide +kernel)
  have d2 := acall Try.func10 (c2) (by decide +kernel) (by decide +kernel)
  have d3 := acall Try.func19 (c3) (by decide +kernel) (by decide +kernel)
  have d4 := acall Try.func18 (c4) (by decide +kernel) (by decide +kernel)
  have d5 := acall Try.func16 (c5) (by decide +kernel) (by decide +kernel)
  have d6 := acall Try.func23 (c6) (by decide +kernel) (by decide +kernel)
  have d7 := acall Try.func12 (c7) (by decide +kernel) (by decide +kernel)
  have d8 := acall Try.func12 (c8) (by decide +kernel) (by decide +kernel)
  have d9 := acall Try.func13 (c9) (by decide +kernel) (by decide +kernel)
  have d10 := acall Try.func13 (c10) (by decide +kernel) (by decide +kernel)
  have d11 := acall Try.func15 (a_awake24) (by decide +kernel) (by decide +kernel)
  refine wK ?_
  refine AW_go (Go2.token 14 30 3 37 rfl rfl) ?_
  refine AW_loopI (fun j : Nat => ⟨[(7, entsA l), (8, opsA row), (10, entsA l), (11, .ptr 11 0 []), (12, .ptr 12 0 []), (13, boolA fd), (14, .sl (some 30) 4 (((row.take j).filter notGet).map Opn.av)), (15, intA j)], [(11, .var (Ans.mk 0 fd V).av), (12, .var V.av), (30, .tail 37 4 ((row.take j).filter notGet).length)]⟩) (fun j => j ≤ row.length) (fun j => row.length - j) 0 (Nat.zero_le _) (by (refine Go2.sub ⟨?_, ?_, ?_⟩ <;> repeat' (first | exact True.intro | rfl | apply And.intro))) (fun j hj => ?_)
  have hflj : ((row.take j).filter notGet).length ≤ j := Nat.le_trans (List.length_filter_le _ _) (by rw [List.length_take]; omega)
  by_cases hlt : j < row.length
  · have hlt' : (j : Int) < (row.length : Nat) := by omega
    have hs := take_filter row notGet j hlt
    by_cases k4 : row[j].kind = 4
    · have k4' : ¬ row[j].kind ≠ 4 := fun h => h k4
      rw [if_neg (by simp [notGet, k4]), List.append_nil] at hs
      refine wK ?_
      refine ⟨j + 1, by omega, by omega, ?_⟩
      rw [hs]
      (refine Go2.sub ⟨?_, ?_, ?_⟩ <;> repeat' (first | exact True.intro | rfl | apply And.intro))
    · have k4' : row[j].kind ≠ 4 := k4
      rw [if_pos (by simp [notGet, k4])] at hs
      refine wK ?_
      refine ⟨j + 1, by omega, by omega, ?_⟩
      rw [hs]
      (refine Go2.sub ⟨?_, ?_, ?_⟩ <;> repeat' (first | exact True.intro | rfl | apply And.intro))
  · obtain rfl : j = row.length := by omega
    have hlt' : ¬ (row.length : Int) < (row.length : Nat) := by omega
    rw [List.take_length]
    refine wK ?_
    refine AW_loopI (fun j : Nat => ⟨[(7, entsA l), (10, entsA l), (11, .ptr 11 0 []), (12, .ptr 12 0 []), (13, boolA fd), (14, .sl (some 30) 4 ((row.filter notGet).map Opn.av)), (16, entsA R.1), (18, entsA R.1), (19, ansA R.2), (20, intA j)], [(11, .var (Ans.mk 0 fd V).av), (12, .var V.av), (30, .tail 37 4 (row.filter notGet).length)]⟩) (fun j => j ≤ R.2.length) (fun j => R.2.length - j) 0 (Nat.zero_le _) (by (refine Go2.sub ⟨?_, ?_, ?_⟩ <;> repeat' (first | exact True.intro | rfl | apply And.intro))) (fun j hj => ?_)
    by_cases hlt : j < R.2.length
    · have hlt' : (j : Int) < (R.2.length : Nat) := by omega
      obtain ⟨p1, p2⟩ := hpl R.2[j] (List.getElem_mem hlt)
      by_cases q : R.2[j].code = 0
      · have q' : ¬ R.2[j].code ≠ 0 := fun h => h q
        refine wK ?_
        refine ⟨j + 1, by omega, by omega, ?_⟩
        (refine Go2.sub ⟨?_, ?_, ?_⟩ <;> repeat' (first | exact True.intro | rfl | apply And.intro))
      · have q' : R.2[j].code ≠ 0 := q
        have q2 : ¬ R.2[j].code ≠ 2 := by omega
        refine wK ?_
        refine ⟨j + 1, by omega, by omega, ?_⟩
        (refine Go2.sub ⟨?_, ?_, ?_⟩ <;> repeat' (first | exact True.intro | rfl | apply And.intro))
    · have hlt' : ¬ (j : Int) < (R.2.length : Nat) := by omega
      have hz : (R.2.length : Int) = ((row.filter notGet).length : Nat) := by omega
      refine wK ?_
      (apply Wv; (focus (exact o_eqAns (a := Ans.mk 0 fd V) (b := Ans.mk 0 fd V) rfl rfl rfl)); (focus (first | exact want_n | exact want_g rfl (by with_reducible rfl))))
      refine wK ?_
      exact fin ⟨res_of rfl rfl rfl, trivial⟩
set_option maxRecDepth 100000 in
set_option maxHeartbeats 8000000 in
theorem a_modelKeys (ops : List Int) (key : Int) (hops : ∀ n ∈ ops, -9223372036854775808 ≤ n ∧ n ≤ 9223372036854775807) (hkey : -9223372036854775808 ≤ key ∧ key ≤ 9223372036854775807) :
    AFn Try.prog 7 [intsA ops, intA key] (boolA true) := by
  refine AFn_intro Try.func7 rfl Try.ntmps7 rfl (by simp) [_] rfl fun E hE => ?_
  have c2 := a_rows ops hops
  have hr := lawRows_len ops
  generalize lawRows ops = row at c2 hr
  have c3 := a_lkey key hkey
  have c4 := a_reftext (lawKey key)
  have hk : (bytesOf (lawKey key).txt).size ≤ 8 := by rw [bytesOf_size]; exact Key.txt_length _
  generalize bytesOf (lawKey key).txt = k at c4 hk
  have hfl : (row.filter (isKey k)).length ≤ row.length := List.length_filter_le _ _
  have c7 := a_mrun [] row lf_nil (by simp) (by omega)
  have c8 := a_mrun [] (row.filter (isKey k)) lf_nil (by simp) (by omega)
  have hn1 := mdRun_nlen row []
  have hn2 := mdRun_nlen (row.filter (isKey k)) []
  have hl1 := (mdRun_len [] row).1
  have hown := own_run hk row (l1 := []) (l2 := []) ⟨lf_nil, lf_nil, rfl⟩
  have hans := own_ans hk row
  generalize mdRun [] row = R at c7 hn1 hl1 hown hans
  generalize mdRun [] (row.filter (isKey k)) = Q at c8 hn2 hown hans
  have hg := hown.get
  have hql := hown.len
  simp only [List.length_nil] at hl1
  have c5 := a_mfind R.1 k hown.lf (by omega)
  have c6 := a_mfind Q.1 k hown.lf2 (by omega)
  unfold mdFind at c5 c6
  rw [if_pos hk] at c5 c6
  rw [hg] at c6
  generalize opA (lfGet (keyOf k).1 R.1) = VF at c5 c6
  obtain ⟨V, fd⟩ := VF
  have k' : (!true) = false := rfl
  have k'' : (!false) = true := rfl
  have d2 := acall Try.func10 (c2) (by decide +kernel) (by decide +kernel)
  have d3 := acall Try.func19 (c3) (by decide +kernel) (by decide +kernel)
  have d4 := acall Try.func18 (c4) (by decide +kernel) (by decide +kernel)
  have d5 := acall Try.func23 (c5) (by decide +kernel) (by decide +kernel)
  have d6 := acall Try.func23 (c6) (by decide +kernel) (by decide +kernel)
  have d11 := acall Try.func15 (a_awake24) (by decide +kernel) (by decide +kernel)
  refine wK ?_
  refine AW_go (Go2.token 7 30 3 37 rfl rfl) ?_
  refine AW_loopI (fun j : Nat => ⟨[(5, strA k), (6, opsA row), (7, .sl (some 30) 4 (((row.take j).filter (isKey k)).map Opn.av)), (8, intA j)], [(30, .tail 37 4 ((row.take j).filter (isKey k)).length)]⟩) (fun j => j ≤ row.length) (fun j => row.length - j) 0 (Nat.zero_le _) (by (refine Go2.sub ⟨?_, ?_, ?_⟩ <;> repeat' (first | exact True.intro | rfl | apply And.intro))) (fun j hj => ?_)
  have hflj : ((row.take j).filter (isKey k)).length ≤ j := Nat.le_trans (List.length_filter_le _ _) (by rw [List.length_take]; omega)
  by_cases hlt : j < row.length
  · have hlt' : (j : Int) < (row.length : Nat) := by omega
    have hs := take_filter row (isKey k) j hlt
    by_cases k4 : row[j].key = k
    · rw [if_pos (by simp [isKey, k4])] at hs
      refine wK ?_
      refine ⟨j + 1, by omega, by omega, ?_⟩
      rw [hs]
      (refine Go2.sub ⟨?_, ?_, ?_⟩ <;> repeat' (first | exact True.intro | rfl | apply And.intro))
    · rw [if_neg (by simp [isKey, k4]), List.append_nil] at hs
      refine wK ?_
      refine ⟨j + 1, by omega, by omega, ?_⟩
      rw [hs]
      (refine Go2.sub ⟨?_, ?_, ?_⟩ <;> repeat' (first | exact True.intro | rfl | apply And.intro))
  · obtain rfl : j = row.length := by omega
    have hlt' : ¬ (row.length : Int) < (row.length : Nat) := by omega
    rw [List.take_length]
    have hz1 : ¬ (R.2.length : Int) ≠ (row.length : Nat) := by omega
    have hz2 : ¬ (Q.2.length : Int) ≠ ((row.filter (isKey k)).length : Nat) := by omega
    refine wK ?_
    (apply Wv; (focus (apply o_call Try.func12 (c7) rfl (by decide +kernel) rfl rfl; (any_goals (intro _; (repeat (first | exact wkl0 | refine wkd rfl ?_ | refine wkt ?_ | refine wkn ?_)); done)); (any_goals rfl))); (focus (first | exact want_n | exact want_g rfl (by with_reducible rfl))))
    refine wK ?_
    (apply Wv; (focus (apply o_call Try.func12 (c8) rfl (by decide +kernel) rfl rfl; (any_goals (intro _; (repeat (first | exact wkl0 | refine wkd rfl ?_ | refine wkt ?_ | refine wkn ?_)); done)); (any_goals rfl))); (focus (first | exact want_n | exact want_g rfl (by with_reducible rfl))))
    refine wK ?_
    refine AW_loopI (fun j : Nat => ⟨[(5, strA k), (6, opsA row), (9, entsA R.1), (10, ansA R.2), (11, entsA Q.1), (12, ansA Q.2), (13, intA (ownAt k row j : Nat)), (14, intA j)], []⟩) (fun j => j ≤ row.length) (fun j => row.length - j) 0 (Nat.zero_le _) (by (refine Go2.sub ⟨?_, ?_, ?_⟩ <;> repeat' (first | exact True.intro | rfl | apply And.intro))) (fun j hj => ?_)
    by_cases hlt : j < row.length
    · have hlt' : (j : Int) < (row.length : Nat) := by omega
      have hst := ownAt_step k row j hlt
      by_cases q : row[j].key = k
      · rw [if_pos q] at hst
        obtain ⟨g1, g2⟩ := hans j hlt q
        have b1 : j < R.2.length := by omega
        have b2 : ownAt k row j < Q.2.length := by omega
        rw [List.getElem?_eq_getElem b1, List.getElem?_eq_getElem b2] at g2
        have g3 : ¬ R.2[j] ≠ Q.2[ownAt k row j] := fun h => h (Option.some.inj g2)
        have ho : ownAt k row j + 1 ≤ 1000 := by omega
        refine wK ?_
        refine ⟨j + 1, by omega, by omega, ?_⟩
        rw [hst]
        (refine Go2.sub ⟨?_, ?_, ?_⟩ <;> repeat' (first | exact True.intro | rfl | apply And.intro))
      · rw [if_neg q, Nat.add_zero] at hst
        refine wK ?_
        refine ⟨j + 1, by omega, by omega, ?_⟩
        rw [hst]
        (refine Go2.sub ⟨?_, ?_, ?_⟩ <;> repeat' (first | exact True.intro | rfl | apply And.intro))
    · have hlt' : ¬ (j : Int) < (row.length : Nat) := by omega
      have hql' : (Q.1.length : Int) ≤ 1 := by omega
      refine wK ?_
      exact fin ⟨res_of rfl rfl rfl, trivial⟩
theorem modelGets_walk (v0 : Value) (l0 : List (Int)) (v1 : Value) (l1 : List (Int)) (n2 : Int) (w : World) (s0 : Sl ie 1 w v0 l0) (g0 : ∀ n ∈ l0, -9223372036854775808 ≤ n ∧ n ≤ 9223372036854775807) (z0 : l0.length ≤ 17592186043904) (s1 : Sl ie 1 w v1 l1) (g1 : ∀ n ∈ l1, -9223372036854775808 ≤ n ∧ n ≤ 9223372036854775807) (z1 : l1.length ≤ 17592186043904) (b2 : -9223372036854775808 ≤ n2 ∧ n2 ≤ 9223372036854775807) :
    Calls Try.prog 8 #[v0, v1, .int .i64 n2] w (Is w (.bool true)) :=
  law_of (a_modelGets l0 l1 n2 g0 g1 b2) (rdp_cons rfl (ints_in s0) (rdp_cons rfl (ints_in s1) (rdp_cons rfl int_in rdp_nil')))
theorem modelKeys_walk (v0 : Value) (l0 : List (Int)) (n1 : Int) (w : World) (s0 : Sl ie 1 w v0 l0) (g0 : ∀ n ∈ l0, -9223372036854775808 ≤ n ∧ n ≤ 9223372036854775807) (z0 : l0.length ≤ 17592186043904) (b1 : -9223372036854775808 ≤ n1 ∧ n1 ≤ 9223372036854775807) :
    Calls Try.prog 7 #[v0, .int .i64 n1] w (Is w (.bool true)) :=
  law_of (a_modelKeys l0 n1 g0 b1) (rdp_cons rfl (ints_in s0) (rdp_cons rfl int_in rdp_nil'))
end Go.Proofs.Ytofcabhahdecdaa

namespace Go.Proofs.Ytofcabhahdecdaa
open Go Go.RowKit
set_option linter.unusedVariables false
set_option linter.unusedSimpArgs false
set_option maxRecDepth 100000

theorem entsOk_nok {cmp : Key → Key → Int} {l : List Ent} {j : Nat} (h : j < l.length) (e : l[j].key.ok = false) : ¬ EntsOk cmp l := fun k => by
  have := (k j h).1
  rw [e] at this; cases this
theorem entsOk_nov {cmp : Key → Key → Int} {l : List Ent} {j : Nat} (h : j < l.length) (e : l[j].val.ok = false) : ¬ EntsOk cmp l := fun k => by
  have := (k j h).2.1
  rw [e] at this; cases this
theorem entsOk_noc {cmp : Key → Key → Int} {l : List Ent} {i : Nat} (h : i + 1 < l.length) (e : 0 ≤ cmp l[i].key l[i + 1].key) : ¬ EntsOk cmp l := fun k => by
  have := (k (i + 1) h).2.2 i rfl
  omega
attribute [local irreducible] OpOK AWops AW CondB Go2 AFn thenA inBlockA noGotoA orderOk wantedA
set_option maxRecDepth 100000 in
set_option maxHeartbeats 8000000 in
theorem a_ref07check (l : List Ent) (hl : l.length ≤ 100000000) : AFn Try.prog 20 [entsA l] (boolA (entsOkB refCmp l)) := by
  refine AFn_intro Try.func20 rfl Try.ntmps20 rfl (by simp) [_] rfl fun E hE => ?_
  have k' : (!true) = false := rfl
  have k'' : (!false) = true := rfl
  refine wL ?_
  refine AW_loopI (fun j : Nat => ⟨[(0, entsA l), (3, intA j)], []⟩) (fun j => j ≤ l.length ∧ ∀ i (hi : i < l.length), i < j → l[i].key.ok = true ∧ l[i].val.ok = true ∧ ∀ a (ha : a + 1 = i), refCmp (l[a]'(by omega)).key l[i].key < 0) (fun j => l.length - j) 0 ⟨Nat.zero_le _, fun i _ h => by omega⟩ (by (refine Go2.sub ⟨?_, ?_, ?_⟩ <;> repeat' (first | exact True.intro | rfl | apply And.intro))) (fun j hj => ?_)
  obtain ⟨j1, j2⟩ := hj
  by_cases c : j < l.length
  · have d1 := a_refkeycheck l[j].key
    have d2 := a_refvlcheck l[j].val
    cases hk : l[j].key.ok with
    | false =>
      rw [hk] at d1
      rw [entsOkB_false (entsOk_nok c hk)]
      have f1 := acall Try.func37 (d1) (by decide +kernel) (by decide +kernel)
      refine wL ?_
      exact fin ⟨res_of rfl rfl rfl, trivial⟩
    | true =>
      rw [hk] at d1
      cases hv : l[j].val.ok with
      | false =>
        rw [hv] at d2
        rw [entsOkB_false (entsOk_nov c hv)]
        have f1 := acall Try.func37 (d1) (by decide +kernel) (by decide +kernel)
        have f2 := acall Try.func39 (d2) (by decide +kernel) (by decide +kernel)
        refine wL ?_
        exact fin ⟨res_of rfl rfl rfl, trivial⟩
      | true =>
        rw [hv] at d2
        have f1 := acall Try.func37 (d1) (by decide +kernel) (by decide +kernel)
        have f2 := acall Try.func39 (d2) (by decide +kernel) (by decide +kernel)
        cases j with
        | zero =>
          refine wL ?_
          refine ⟨1, ⟨c, fun i hi hij => ?_⟩, by omega, ?_⟩
          · obtain rfl : i = 0 := by omega
            exact ⟨hk, hv, fun a ha => by omega⟩
          · (refine Go2.sub ⟨?_, ?_, ?_⟩ <;> repeat' (first | exact True.intro | rfl | apply And.intro))
        | succ m =>
          have f3 := acall Try.func40 (a_refcmp l[m].key l[m + 1].key) (by decide +kernel) (by decide +kernel)
          by_cases q : 0 ≤ refCmp l[m].key l[m + 1].key
          · rw [entsOkB_false (entsOk_noc c q)]
            refine wL ?_
            exact fin ⟨res_of rfl rfl rfl, trivial⟩
          · refine wL ?_
            refine ⟨m + 1 + 1, ⟨c, fun i hi hij => ?_⟩, by omega, ?_⟩
            · by_cases e : i = m + 1
              · subst e
                exact ⟨hk, hv, fun a ha => by
                  have e : a = m := by omega
                  subst e; exact Int.not_le.1 q⟩
              · exact j2 i hi (by omega)
            · (refine Go2.sub ⟨?_, ?_, ?_⟩ <;> repeat' (first | exact True.intro | rfl | apply And.intro))
  · rw [entsOkB_true (fun i hi => j2 i hi (by omega))]
    refine wL ?_
    exact fin ⟨res_of rfl rfl rfl, trivial⟩
end Go.Proofs.Ytofcabhahdecdaa

namespace Go.Proofs.Ytofcabhahdecdaa
open Go Go.RowKit
set_option linter.unusedVariables false
set_option linter.unusedSimpArgs false
set_option maxRecDepth 100000

def de (x : BitVec 64) : Array Value := #[.int .u64 (D64 x)]
theorem de_ok : EncOk de 1 := ⟨fun _ => rfl, fun _ => by simp [de, oneCells, Value.oneCell'], by omega⟩
theorem de_ofInt (n : Int) (h : (Lit.int .u64 n).wf = true) : de (BitVec.ofInt 64 n) = #[.int .u64 n] := by
  have : 0 ≤ n ∧ n ≤ 18446744073709551615 := by simp [Lit.wf, IntKind.min, IntKind.max, IntKind.signed, IntKind.bits] at h; omega
  unfold de
  rw [D64_ofInt n (by omega) (by omega)]
section
variable {H : Type} {enc : TypeId × Value → H} {w : World} {base : Nat} {spare : Nat → Bool} {held : Bool} {fuel : Nat} {cs : List Value} {x : DataW H × List MemPlace}
theorem in_Op (h : DataW.trod enc Try.prog w base spare held fuel 37 cs = some x) : ∃ k : Opn, cs = k.arr.toList := by
  obtain ⟨ys, n, _, _, hl, hys, hf⟩ := DataW.trod_struct Try.underlying37 h
  have hys' : ys.length = 4 := hys
  match ys, hys' with
  | [y0, y1, y2, y3], _ =>
    obtain ⟨k0, e0, hk⟩ := in_i64 Try.underlying3 (show DataW.trod enc Try.prog w base spare held n 3 ((cs.drop 0).take (Try.prog.cellsOf 3)) = some y0 from hf 0 _ rfl)
    obtain ⟨k1, e1, _⟩ := DataW.trod_string Try.underlying9 (show DataW.trod enc Try.prog w base spare held n 9 ((cs.drop 1).take (Try.prog.cellsOf 9)) = some y1 from hf 1 _ rfl)
    obtain ⟨k2, e2, _⟩ := DataW.trod_string Try.underlying9 (show DataW.trod enc Try.prog w base spare held n 9 ((cs.drop 2).take (Try.prog.cellsOf 9)) = some y2 from hf 2 _ rfl)
    obtain ⟨k3, e3⟩ := in_u64 Try.underlying35 (show DataW.trod enc Try.prog w base spare held n 35 ((cs.drop 3).take (Try.prog.cellsOf 35)) = some y3 from hf 3 _ rfl)
    have hl' : cs.length = 4 := hl.trans (by kernel_rfl)
    refine ⟨⟨k0, k1, k2, k3⟩, ?_⟩
    rw [show Try.prog.cellsOf 3 = 1 from by kernel_rfl, List.drop_zero] at e0
    rw [show Try.prog.cellsOf 9 = 1 from by kernel_rfl] at e1 e2
    rw [show Try.prog.cellsOf 35 = 1 from by kernel_rfl] at e3
    rw [Opn.arr_def]
    simp only [cat_def, cel_def]
    match cs, hl' with
    | [c0, c1, c2, c3], _ =>
      simp at e0 e1 e2 e3
      subst e0 e1 e2 e3
      simp
end
/-- as the law's frame has it -/
theorem in_op {H : Type} {enc : TypeId × Value → H} {w : World} {base : Nat} {spare : Nat → Bool} {held : Bool} {v : Value} {d : DataW H} {ps : List MemPlace} (h : DataW.Trod enc Try.prog w base spare held 37 v d ps) (hv : ∃ cs, v = .agg cs ∧ cs.size = Try.prog.cellsOf 37) : ∃ k : Opn, v = .agg k.arr := by
  obtain ⟨fuel, hf⟩ := h
  obtain ⟨k, h1⟩ := in_Op hf
  obtain ⟨cs, rfl, hs⟩ := hv
  have h3 : cs.toList = k.arr.toList := h1
  exact ⟨k, by rw [Array.toList_inj.1 h3]⟩
theorem opn_in {w : World} {k : Opn} : Rdv (fun _ _ => False) w B0 H0 k.av (.agg k.arr) := dOpn.rdv.2 rfl
end Go.Proofs.Ytofcabhahdecdaa

namespace Go.Proofs.Ytofcabhahdecdaa
open Go Go.RowKit
set_option linter.unusedVariables false
set_option linter.unusedSimpArgs false
set_option maxRecDepth 100000

def u64sA (l : List (BitVec 64)) : AV := .sl none 1 (l.map u64A)
theorem u64s_in {w : World} {xs : List (BitVec 64)} {v : Value} (h : Sl de 1 w v xs) : Rdv (fun _ _ => False) w B0 H0 (u64sA xs) v :=
  sl_in de_ok (fun U w xs c => by rw [flat_cells (arr := de) (cell := fun n => Value.int .u64 (D64 n)) (fun _ => rfl)]; exact rdu_cells (cell := fun n => .int .u64 (D64 n)) (fun _ => rfl) (fun _ => rfl) xs) h
theorem take_snoc_map {α β : Type} (f : α → β) (l : List α) (j : Nat) (h : j < l.length) : (l.take (j + 1)).map f = (l.take j).map f ++ [f l[j]] := by
  rw [← List.take_append_getElem h, List.map_append]; rfl
/-- what Adds alone come to -/
theorem adds_come (k : ByteArray) (hk : k.size ≤ 8) (bs : List (BitVec 64)) (h : bs ≠ []) : (mdRun [] (bs.map (addOp k))).1 = [⟨(keyOf k).1, fromN (bs.foldl (· + ·) 0#64)⟩] := by
  have := run_adds k hk bs none
  rw [if_neg h] at this
  exact this
theorem dels_come (k : ByteArray) (hk : k.size ≤ 8) (xs bs : List (BitVec 64)) : (mdRun [] (xs.map (addOp k) ++ [delOp k] ++ bs.map (addOp k))).1 = (mdRun [] (bs.map (addOp k))).1 := by
  rw [mdRun_append, mdRun_append]
  have h1 := run_adds k hk xs none
  have e : mdRun (mdRun [] (xs.map (addOp k))).1 [delOp k] = ((mdDo (mdRun [] (xs.map (addOp k))).1 (delOp k)).1, [(mdDo (mdRun [] (xs.map (addOp k))).1 (delOp k)).2]) := rfl
  rw [e]
  simp only
  have h2 : (mdRun [] (xs.map (addOp k))).1 = _ := h1
  rw [h2, do_del k hk]
attribute [local irreducible] OpOK AWops AW CondB Go2 AFn thenA inBlockA noGotoA orderOk wantedA
set_option maxRecDepth 100000 in
set_option maxHeartbeats 8000000 in
theorem a_modelAdds (by_ : List (BitVec 64)) (turn cut v : Int) (ht : -9223372036854775808 ≤ turn ∧ turn ≤ 9223372036854775807) (hc : -9223372036854775808 ≤ cut ∧ cut ≤ 9223372036854775807) (hv : -9223372036854775808 ≤ v ∧ v ≤ 9223372036854775807) :
    AFn Try.prog 5 [u64sA by_, intA turn, intA cut, intA v] (boolA true) := by
  refine AFn_intro Try.func5 rfl Try.ntmps5 rfl (by simp) [_] rfl fun E hE => ?_
  have d11 := acall Try.func15 (a_awake24) (by decide +kernel) (by decide +kernel)
  by_cases q1 : 40 < by_.length
  · have q1' : (40 : Int) < (by_.length : Nat) := by omega
    refine wK ?_
    exact fin ⟨res_of rfl rfl rfl, trivial⟩
  have q1' : ¬ (40 : Int) < (by_.length : Nat) := by omega
  by_cases q2 : by_.length = 0
  · have q2' : (by_.length : Int) = 0 := by omega
    refine wK ?_
    exact fin ⟨res_of rfl rfl rfl, trivial⟩
  have q2' : ¬ (by_.length : Int) = 0 := by omega
  have c3 := a_lkey v hv
  have c4 := a_reftext (lawKey v)
  have hk : (bytesOf (lawKey v).txt).size ≤ 8 := by rw [bytesOf_size]; exact Key.txt_length _
  generalize bytesOf (lawKey v).txt = k at c4 hk
  obtain ⟨A, hA⟩ : ∃ A, by_.map (addOp k) = A := ⟨_, rfl⟩
  have hAl : A.length = by_.length := by rw [← hA]; simp
  have c5 := a_lplace turn (A.length : Nat) (by omega) (by omega) ht
  have c6 := a_lplace cut (A.length : Nat) (by omega) (by omega) hc
  obtain ⟨t, et⟩ : ∃ t : Nat, turn % (A.length : Int) = (t : Int) := ⟨(turn % (A.length : Int)).toNat, by have := Int.emod_nonneg turn (show (A.length : Int) ≠ 0 by omega); omega⟩
  obtain ⟨c, ec⟩ : ∃ c : Nat, cut % (A.length : Int) = (c : Int) := ⟨(cut % (A.length : Int)).toNat, by have := Int.emod_nonneg cut (show (A.length : Int) ≠ 0 by omega); omega⟩
  have htl : t < A.length := by have := Int.emod_lt_of_pos turn (show (0 : Int) < (A.length : Int) by omega); omega
  have hcl : c < A.length := by have := Int.emod_lt_of_pos cut (show (0 : Int) < (A.length : Int) by omega); omega
  rw [et] at c5
  rw [ec] at c6
  have x1 : (mdRun [] A).1 = [⟨(keyOf k).1, fromN (by_.foldl (· + ·) 0#64)⟩] := by rw [← hA]; exact adds_come k hk by_ (fun h => q2 (by rw [h]; rfl))
  have x2 : (mdRun [] (A.drop t ++ A.take t)).1 = (mdRun [] A).1 := by
    rw [x1, ← hA, ← List.map_drop, ← List.map_take, ← List.map_append, adds_come k hk _ (fun h => q2 (by have := congrArg List.length h; simp at this; omega)), sum_turn, List.take_append_drop]
  have x3 : (mdRun [] (A.take c ++ [delOp k] ++ A.drop c)).1 = (mdRun [] (A.drop c)).1 := by
    rw [← hA, ← List.map_drop, ← List.map_take]; exact dels_come k hk _ _
  have r1 := a_mrun [] A lf_nil (by simp) (by omega)
  have r2 := a_mrun [] (A.drop t ++ A.take t) lf_nil (by simp) (by simp; omega)
  have r3 := a_mrun [] (A.take c ++ [delOp k] ++ A.drop c) lf_nil (by simp) (by simp; omega)
  have r4 := a_mrun [] (A.drop c) lf_nil (by simp) (by simp; omega)
  have hl1 := mdRun_lf lf_nil A
  have hn1 := (mdRun_len [] A).1
  have hn4 := (mdRun_len [] (A.drop c)).1
  rw [x2] at r2
  rw [x3] at r3
  have hx : (mdRun [] A).1.length = 1 := by rw [x1]; rfl
  generalize (mdRun [] (A.drop t ++ A.take t)).2 = Z2 at r2
  generalize (mdRun [] (A.take c ++ [delOp k] ++ A.drop c)).2 = Z3 at r3
  generalize mdRun [] (A.drop c) = R4 at r3 r4 hn4
  clear x1 x2 x3
  generalize mdRun [] A = R1 at r1 r2 hl1 hn1 hx
  rw [List.length_drop] at hn4
  simp only [List.length_nil] at hn1 hn4
  have s1 := a_msame R1.1 R1.1 (by omega)
  rw [decide_eq_true rfl] at s1
  have s2 := a_msame R4.1 R4.1 (by omega)
  rw [decide_eq_true rfl] at s2
  have s3 := a_ref07check R1.1 (by omega)
  rw [entsOkB_ref, entsOkB_true hl1.ents] at s3
  have hx' : (R1.1.length : Int) = 1 := by omega
  have d3 := acall Try.func19 (c3) (by decide +kernel) (by decide +kernel)
  have d4 := acall Try.func18 (c4) (by decide +kernel) (by decide +kernel)
  have d5 := acall Try.func11 (c5) (by decide +kernel) (by decide +kernel)
  have d6 := acall Try.func11 (c6) (by decide +kernel) (by decide +kernel)
  have d7 := acall Try.func13 (s1) (by decide +kernel) (by decide +kernel)
  have d8 := acall Try.func13 (s2) (by decide +kernel) (by decide +kernel)
  have d9 := acall Try.func20 (s3) (by decide +kernel) (by decide +kernel)
  refine wK ?_
  refine AW_go (Go2.token 10 30 3 37 rfl rfl) ?_
  refine AW_loopI (fun j : Nat => ⟨[(0, u64sA by_), (1, intA turn), (2, intA cut), (9, strA k), (10, .sl (some 30) 4 (((by_.take j).map (addOp k)).map Opn.av)), (11, intA j)], [(30, .tail 37 4 ((by_.take j).map (addOp k)).length)]⟩) (fun j => j ≤ by_.length) (fun j => by_.length - j) 0 (Nat.zero_le _) (by (refine Go2.sub ⟨?_, ?_, ?_⟩ <;> repeat' (first | exact True.intro | rfl | apply And.intro))) (fun j hj => ?_)
  have hjl : ((by_.take j).map (addOp k)).length ≤ j := by simp; omega
  by_cases hlt : j < by_.length
  · have hlt' : (j : Int) < (by_.length : Nat) := by omega
    have hs := take_snoc_map (addOp k) by_ j hlt
    refine wK ?_
    refine Was 47 (.sl (some 47) 4 [(addOp k by_[j]).av]) rfl ?_
    refine wK ?_
    refine ⟨j + 1, by omega, by omega, ?_⟩
    rw [hs]
    (refine Go2.sub ⟨?_, ?_, ?_⟩ <;> repeat' (first | exact True.intro | rfl | apply And.intro))
  · obtain rfl : j = by_.length := by omega
    have hlt' : ¬ (by_.length : Int) < (by_.length : Nat) := by omega
    rw [List.take_length, hA]
    refine wK ?_
    (apply Wv; (focus (apply o_call Try.func12 (r1) rfl (by decide +kernel) rfl rfl; (any_goals (intro _; (repeat (first | exact wkl0 | refine wkd rfl ?_ | refine wkt ?_ | refine wkn ?_)); done)); (any_goals rfl))); (focus (first | exact want_n | exact want_g rfl (by with_reducible rfl))))
    refine wK ?_
    (apply Wv; (focus (apply o_call Try.func12 (r2) rfl (by decide +kernel) rfl rfl; (any_goals (intro _; (repeat (first | exact wkl0 | refine wkd rfl ?_ | refine wkt ?_ | refine wkn ?_)); done)); (any_goals rfl))); (focus (first | exact want_n | exact want_g rfl (by with_reducible rfl))))
    refine wK ?_
    refine Was 83 (.sl (some 83) 4 [(delOp k).av]) rfl ?_
    refine wK ?_
    (apply Wv; (focus (apply o_call Try.func12 (r3) rfl (by decide +kernel) rfl rfl; (any_goals (intro _; (repeat (first | exact wkl0 | refine wkd rfl ?_ | refine wkt ?_ | refine wkn ?_)); done)); (any_goals rfl))); (focus (first | exact want_n | exact want_g rfl (by with_reducible rfl))))
    refine wK ?_
    (apply Wv; (focus (apply o_call Try.func12 (r4) rfl (by decide +kernel) rfl rfl; (any_goals (intro _; (repeat (first | exact wkl0 | refine wkd rfl ?_ | refine wkt ?_ | refine wkn ?_)); done)); (any_goals rfl))); (focus (first | exact want_n | exact want_g rfl (by with_reducible rfl))))
    refine wK ?_
    exact fin ⟨res_of rfl rfl rfl, trivial⟩
set_option maxRecDepth 100000 in
set_option maxHeartbeats 8000000 in
theorem a_modelAll (e ops : List Int) (o : Opn) (s : ByteArray) (he : ∀ n ∈ e, -9223372036854775808 ≤ n ∧ n ≤ 9223372036854775807) (hops : ∀ n ∈ ops, -9223372036854775808 ≤ n ∧ n ≤ 9223372036854775807) :
    AFn Try.prog 6 [intsA e, intsA ops, o.av, strA s] (boolA true) := by
  refine AFn_intro Try.func6 rfl Try.ntmps6 rfl (by simp) [_] rfl fun E hE => ?_
  have d11 := acall Try.func15 (a_awake24) (by decide +kernel) (by decide +kernel)
  by_cases q1 : 100 < o.key.size
  · have q1' : (100 : Int) < (o.key.size : Nat) := by omega
    refine wK ?_
    exact fin ⟨res_of rfl rfl rfl, trivial⟩
  have q1' : ¬ (100 : Int) < (o.key.size : Nat) := by omega
  by_cases q2 : 100 < o.val.size
  · have q2' : (100 : Int) < (o.val.size : Nat) := by omega
    refine wK ?_
    exact fin ⟨res_of rfl rfl rfl, trivial⟩
  have q2' : ¬ (100 : Int) < (o.val.size : Nat) := by omega
  by_cases q3 : 100 < s.size
  · have q3' : (100 : Int) < (s.size : Nat) := by omega
    refine wK ?_
    exact fin ⟨res_of rfl rfl rfl, trivial⟩
  have q3' : ¬ (100 : Int) < (s.size : Nat) := by omega
  have c1 := a_entries e 3000 he
  have hl := entList_lf e 3000
  have hll := entList_len e 3000
  generalize entList e 3000 = l at c1 hl hll
  have c2 := a_rows ops hops
  have hr := lawRows_len ops
  generalize lawRows ops = row at c2 hr
  have c3 := a_mrun l row hl (by omega) (by omega)
  have c4 := a_refrun24 l row hl (by omega) (by omega)
  have c5 := a_mdo l o hl (by omega)
  have c6 := a_refdo l o hl (by omega)
  have hlf := mdRun_lf hl row
  obtain ⟨hl1, hl2⟩ := mdRun_len l row
  have hdl := mdDo_len l o
  generalize mdDo l o = D at c5 c6 hdl
  generalize mdRun l row = R at c3 c4 hlf hl1 hl2
  have c7 := a_mfind R.1 s hlf (by omega)
  have c8 := a_reffind24 R.1 s hlf (by omega)
  generalize mdFind R.1 s = VF at c7 c8
  obtain ⟨V, fd⟩ := VF
  obtain ⟨D1, D2⟩ := D
  have s1 := m_sameEnts R.1 R.1 (by omega)
  rw [decide_eq_true rfl] at s1
  have s2 := m_sameEnts D1 D1 (by simp only at hdl; omega)
  rw [decide_eq_true rfl] at s2
  have s3 := a_sameAns R.2 R.2 (by omega)
  rw [decide_eq_true rfl] at s3
  have d1 := acall Try.func9 (c1) (by decide +kernel) (by decide +kernel)
  have d2 := acall Try.func10 (c2) (by decide +kernel) (by decide +kernel)
  have d3 := acall Try.func12 (c3) (by decide +kernel) (by decide +kernel)
  have d4 := acall Try.func21 (c4) (by decide +kernel) (by decide +kernel)
  have d5 := acall Try.func16 (c5) (by decide +kernel) (by decide +kernel)
  have d6 := acall Try.func22 (c6) (by decide +kernel) (by decide +kernel)
  have d7 := acall Try.func23 (c7) (by decide +kernel) (by decide +kernel)
  have d8 := acall Try.func24 (c8) (by decide +kernel) (by decide +kernel)
  have d9 := acall Try.func25 (s1) (by decide +kernel) (by decide +kernel)
  have d10 := acall Try.func25 (s2) (by decide +kernel) (by decide +kernel)
  have d12 := acall Try.func14 (s3) (by decide +kernel) (by decide +kernel)
  refine wK ?_
  exact fin ⟨res_of rfl rfl rfl, trivial⟩
theorem modelAdds_walk (v0 : Value) (l0 : List (BitVec 64)) (n1 : Int) (n2 : Int) (n3 : Int) (w : World) (s0 : Sl de 1 w v0 l0) (b1 : -9223372036854775808 ≤ n1 ∧ n1 ≤ 9223372036854775807) (b2 : -9223372036854775808 ≤ n2 ∧ n2 ≤ 9223372036854775807) (b3 : -9223372036854775808 ≤ n3 ∧ n3 ≤ 9223372036854775807) :
    Calls Try.prog 5 #[v0, .int .i64 n1, .int .i64 n2, .int .i64 n3] w (Is w (.bool true)) :=
  law_of (a_modelAdds l0 n1 n2 n3 b1 b2 b3) (rdp_cons rfl (u64s_in s0) (rdp_cons rfl int_in (rdp_cons rfl int_in (rdp_cons rfl int_in rdp_nil'))))
theorem modelAll_walk (v0 : Value) (l0 : List (Int)) (v1 : Value) (l1 : List (Int)) (x2 : Opn) (t3 : ByteArray) (w : World) (s0 : Sl ie 1 w v0 l0) (g0 : ∀ n ∈ l0, -9223372036854775808 ≤ n ∧ n ≤ 9223372036854775807) (z0 : l0.length ≤ 17592186043904) (s1 : Sl ie 1 w v1 l1) (g1 : ∀ n ∈ l1, -9223372036854775808 ≤ n ∧ n ≤ 9223372036854775807) (z1 : l1.length ≤ 17592186043904) (z3 : t3.size ≤ maxLen) :
    Calls Try.prog 6 #[v0, v1, .agg x2.arr, .string t3] w (Is w (.bool true)) :=
  law_of (a_modelAll l0 l1 x2 t3 g0 g1) (rdp_cons rfl (ints_in s0) (rdp_cons rfl (ints_in s1) (rdp_cons rfl opn_in (rdp_cons rfl (Rdv_v.2 ⟨rfl, rfl⟩) rdp_nil'))))
end Go.Proofs.Ytofcabhahdecdaa
