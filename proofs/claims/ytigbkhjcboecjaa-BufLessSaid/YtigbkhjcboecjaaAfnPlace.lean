/-
  AfnPlace: the laws' Place, over readings.
-/
import Derived.Test.YtigbkhjcboecjaaAfn
namespace Go.Proofs.Ytigbkhjcboecjaa
open Go Go.RowKit
set_option linter.unusedVariables false
set_option linter.unusedSimpArgs false

theorem a_lplace (v n : Int) (h0 : 0 < n) (h1 : n ≤ 9223372036854775807) (hv : -9223372036854775808 ≤ v ∧ v ≤ 9223372036854775807) : AFn Try.prog 37 [intA v, intA n] (intA (v % n)) := fun U w vs h => by
  obtain ⟨v1, us, rfl, k1, h⟩ := rdp_one h
  obtain ⟨v2, us, rfl, k2, h⟩ := rdp_one h
  obtain rfl := rdp_nil h
  rw [int_arg k1, int_arg k2]
  exact (lplace_any v n w h0 h1 hv).mono fun e w' ⟨q1, q2⟩ => ⟨_, q1, is_v (w := w) rfl, by rw [q2]; exact Ext.refl w⟩
end Go.Proofs.Ytigbkhjcboecjaa
