/-
  KeyRefs: what the document's key functions compute: the plain law's words. No conditions on the keys.
-/
import Derived.Test.YtigbkhjcboecjaaKeyPure
namespace Go.Proofs.Ytigbkhjcboecjaa
open Go Go.RowKit
set_option linter.unusedVariables false
set_option linter.unusedSimpArgs false


set_option maxHeartbeats 1000000 in
/-- the document's Check -/
theorem refkeycheck_any (k : Key) (w : World) : Calls Try.prog 53 #[.agg k.arr] w (Is w (.bool k.ok)) := by
  by_cases h0 : k.n < 0
  · have hok : k.ok = false := (Key.ok_false k).2 (.inl h0)
    go_enter Try.func53, Try.ntmps53
    go_wp2
    go_ret
    exact ⟨by simp [hok], (by repeat (first | exact Ext.refl _ | assumption | refine Ext.drew ?_ | refine Ext.drewN ?_ _ | refine Ext.alloc ?_ _ | refine Ext.trans ?_ (by assumption)))⟩
  have h0' : 0 ≤ k.n := by omega
  by_cases h8 : 8 < k.n
  · have hok : k.ok = false := (Key.ok_false k).2 (.inr (.inl h8))
    go_enter Try.func53, Try.ntmps53
    go_wp2
    go_ret
    exact ⟨by simp [hok], (by repeat (first | exact Ext.refl _ | assumption | refine Ext.drew ?_ | refine Ext.drewN ?_ _ | refine Ext.alloc ?_ _ | refine Ext.trans ?_ (by assumption)))⟩
  have h8' : k.n ≤ 8 := by omega
  obtain ⟨n, hn⟩ : ∃ n : Nat, k.n = (n : Int) := ⟨k.n.toNat, by omega⟩
  have H0 := Lib.hid hn
  have hn8 : n ≤ 8 := by omega
  clear hn
  go_enter Try.func53, Try.ntmps53
  go_wp2
  go_loop [3] (fun x => ∃ i : Nat, n ≤ i ∧ i ≤ 8 ∧ x = .int .i64 i ∧ ∀ j (h : j < 8), n ≤ j → j < i → k.b[j] = 0#8) (fun x => 8 - (intOf x).toNat)
  case atStart => exact ⟨n, by omega, by omega, by rw [H0.out], fun j _ h1 h2 => absurd h1 (by omega)⟩
  case round =>
    obtain ⟨i, h1, h2, rfl, hz⟩ := hrel
    have HZ := Lib.hid hz
    clear hz
    have H0' := H0.out
    have hni : k.n ≤ i := by omega
    clear H0'
    by_cases hlt : i < 8
    · by_cases hb : k.b[i] = 0#8
      · go_wp2
        go_round
        case rel =>
          refine ⟨i + 1, by omega, by omega, by go_num, fun j hj h3 h4 => ?_⟩
          by_cases h5 : j = i
          · subst h5; exact hb
          · exact HZ.out j hj h3 (by omega)
        case measure => simp [intOf]; omega
      · have hok : k.ok = false := (Key.ok_false k).2 (.inr (.inr fun h => hb ((trunc_iff _ _).1 h i hlt (by omega))))
        go_wp2
        go_ret
        exact ⟨by simp [hok], (by repeat (first | exact Ext.refl _ | assumption | refine Ext.drew ?_ | refine Ext.drewN ?_ _ | refine Ext.alloc ?_ _ | refine Ext.trans ?_ (by assumption)))⟩
    · obtain rfl : i = 8 := by omega
      have hok : k.ok = true := (Key.ok_iff k).2 ⟨h0', h8', (trunc_iff _ _).2 fun j hj h3 => HZ.out j hj (by rw [H0.out] at h3; omega) hj⟩
      go_wp2
      go_ret
      exact ⟨by simp [hok], (by repeat (first | exact Ext.refl _ | assumption | refine Ext.drew ?_ | refine Ext.drewN ?_ _ | refine Ext.alloc ?_ _ | refine Ext.trans ?_ (by assumption)))⟩

set_option maxHeartbeats 4000000 in
/-- the document's Compare -/
theorem refkeycmp_any (a b : Key) (w : World) : Calls Try.prog 33 #[.agg a.arr, .agg b.arr] w (Is w (.int .i64 (refCmp a b))) := by
  have H := Lib.hid (refCmp_def a b)
  go_enter Try.func33, Try.ntmps33
  go_wp2
  go_loopw [5] (fun x wr => ∃ i m : Nat, i ≤ 8 ∧ x = .int .i64 i ∧ refCmp a b = cmpFrom a b (8 - i) i ∧ wr = ((w.alloc (.cells a.arr 27)).alloc (.cells b.arr 27)).drewN m) (fun x _ => 8 - (intOf x).toNat)
  case atStart => exact ⟨0, 0, by omega, rfl, H.out, rfl⟩
  case round =>
    obtain ⟨i, m, hi, rfl, he, rfl⟩ := hrel
    have HE := Lib.hid he
    clear he
    by_cases hlt : i < 8
    · by_cases h1 : a.n ≤ i
      · by_cases h2 : b.n ≤ i
        · have HC := Lib.hid (HE.out.trans (cmpFrom_ends (c := 0) hlt (by unfold cmpAt; rw [if_pos ⟨h1, h2⟩])))
          go_wp2
          go_ret
          exact ⟨by simp [HC.out], (by repeat (first | exact Ext.refl _ | assumption | refine Ext.drew ?_ | refine Ext.drewN ?_ _ | refine Ext.alloc ?_ _ | refine Ext.trans ?_ (by assumption)))⟩
        · have HC := Lib.hid (HE.out.trans (cmpFrom_ends (c := -1) hlt (by unfold cmpAt; rw [if_neg (by omega), if_pos h1])))
          have h2' : (i : Int) < b.n := by omega
          go_wp2
          go_ret
          exact ⟨by simp [HC.out], (by repeat (first | exact Ext.refl _ | assumption | refine Ext.drew ?_ | refine Ext.drewN ?_ _ | refine Ext.alloc ?_ _ | refine Ext.trans ?_ (by assumption)))⟩
      · have h1' : (i : Int) < a.n := by omega
        by_cases h2 : b.n ≤ i
        · have HC := Lib.hid (HE.out.trans (cmpFrom_ends (c := 1) hlt (by unfold cmpAt; rw [if_neg (by omega), if_neg h1, if_pos h2])))
          go_wp2
          go_ret
          exact ⟨by simp [HC.out], (by repeat (first | exact Ext.refl _ | assumption | refine Ext.drew ?_ | refine Ext.drewN ?_ _ | refine Ext.alloc ?_ _ | refine Ext.trans ?_ (by assumption)))⟩
        · have h2' : (i : Int) < b.n := by omega
          have hlt' : (i : Int) < 8 := by omega
          have h0' : (0 : Int) ≤ (i : Int) := by omega
          have ga : a.b.toList.getD i 0 = a.b[i] := by simp [List.getD_eq_getElem?_getD, hlt]
          have gb : b.b.toList.getD i 0 = b.b[i] := by simp [List.getD_eq_getElem?_getD, hlt]
          by_cases h3 : B8 a.b[i] < B8 b.b[i]
          · have HC := Lib.hid (HE.out.trans (cmpFrom_ends (c := -1) hlt (by unfold cmpAt; rw [if_neg (by omega), if_neg h1, if_neg h2, ga, gb, if_pos (by rwa [B8_ltB] at h3)])))
            clear ga gb
            go_wp2
            go_quiet (fail)
            go_wp2
            go_ret
            exact ⟨by simp [HC.out], (by repeat (first | exact Ext.refl _ | assumption | refine Ext.drew ?_ | refine Ext.drewN ?_ _ | refine Ext.alloc ?_ _ | refine Ext.trans ?_ (by assumption)))⟩
          · by_cases h4 : B8 b.b[i] < B8 a.b[i]
            · have HC := Lib.hid (HE.out.trans (cmpFrom_ends (c := 1) hlt (by unfold cmpAt; rw [if_neg (by omega), if_neg h1, if_neg h2, ga, gb, if_neg (by rwa [B8_ltB] at h3), if_pos (by rwa [B8_ltB] at h4)])))
              clear ga gb
              go_wp2
              go_quiet (fail)
              go_wp2
              go_quiet (fail)
              go_wp2
              go_ret
              exact ⟨by simp [HC.out], (by repeat (first | exact Ext.refl _ | assumption | refine Ext.drew ?_ | refine Ext.drewN ?_ _ | refine Ext.alloc ?_ _ | refine Ext.trans ?_ (by assumption)))⟩
            · have HC := Lib.hid (HE.out.trans (cmpFrom_on hlt (by unfold cmpAt; rw [if_neg (by omega), if_neg h1, if_neg h2, ga, gb, if_neg (by rwa [B8_ltB] at h3), if_neg (by rwa [B8_ltB] at h4)])))
              clear ga gb
              go_wp2
              go_quiet (fail)
              go_wp2
              go_quiet (fail)
              go_wp2
              go_round
              case rel => exact ⟨i + 1, _, by omega, by go_num, HC.out, rfl⟩
              case measure => simp [intOf]; omega
    · obtain rfl : i = 8 := by omega
      have HC := Lib.hid (HE.out.trans (show cmpFrom a b (8 - 8) 8 = 0 from rfl))
      go_wp2
      go_ret
      exact ⟨by simp [HC.out], (by repeat (first | exact Ext.refl _ | assumption | refine Ext.drew ?_ | refine Ext.drewN ?_ _ | refine Ext.alloc ?_ _ | refine Ext.trans ?_ (by assumption)))⟩

end Go.Proofs.Ytigbkhjcboecjaa
