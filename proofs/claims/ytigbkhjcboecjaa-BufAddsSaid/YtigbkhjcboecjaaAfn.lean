/-
  Afn: the contracts that were shown over the world, as contracts over readings.
-/
import Derived.Test.YtigbkhjcboecjaaAbsStep
import Derived.Test.YtigbkhjcboecjaaFanPure
import Derived.Test.YtigbkhjcboecjaaKeyWalks
import Derived.Test.YtigbkhjcboecjaaKeyRefs
import Derived.Test.YtigbkhjcboecjaaVlProg
import Derived.Test.YtigbkhjcboecjaaLaw00Walks
namespace Go.Proofs.Ytigbkhjcboecjaa
open Go Go.RowKit
set_option linter.unusedVariables false
set_option linter.unusedSimpArgs false

def keysA (l : List Key) : AV := .sl none 9 (l.map Key.av)
def intsA (l : List Int) : AV := .sl none 1 (l.map intA)
def bytesA (l : List (BitVec 8)) : AV := .sl none 1 (l.map byteA)
def msgsA (l : List Msg) : AV := .sl none 29 (l.map Msg.av)
def entsA (l : List Ent) : AV := .sl none 26 (l.map Ent.av)
theorem a_keycheck (a : Key) : AFn Try.prog 57 [a.av] (boolA a.ok) := fun U w vs h => by
  obtain ⟨v1, us, rfl, h1, h⟩ := rdp_one h
  obtain rfl := rdp_nil h
  rw [dKey.rdv.1 h1]
  exact ofIs (keycheck_any a w) fun w' => is_v (w := w) rfl
theorem a_keycmp (a b : Key) : AFn Try.prog 43 [a.av, b.av] (intA (keyCmp a b)) := fun U w vs h => by
  obtain ⟨v1, us, rfl, h1, h⟩ := rdp_one h
  obtain ⟨v2, us, rfl, h2, h⟩ := rdp_one h
  obtain rfl := rdp_nil h
  rw [dKey.rdv.1 h1, dKey.rdv.1 h2]
  exact ofIs (keycmp_any a b w) fun w' => is_v (w := w) rfl
theorem a_refkeycheck (a : Key) : AFn Try.prog 53 [a.av] (boolA a.ok) := fun U w vs h => by
  obtain ⟨v1, us, rfl, h1, h⟩ := rdp_one h
  obtain rfl := rdp_nil h
  rw [dKey.rdv.1 h1]
  exact ofIs (refkeycheck_any a w) fun w' => is_v (w := w) rfl
theorem a_refcmp (a b : Key) : AFn Try.prog 33 [a.av, b.av] (intA (refCmp a b)) := fun U w vs h => by
  obtain ⟨v1, us, rfl, h1, h⟩ := rdp_one h
  obtain ⟨v2, us, rfl, h2, h⟩ := rdp_one h
  obtain rfl := rdp_nil h
  rw [dKey.rdv.1 h1, dKey.rdv.1 h2]
  exact ofIs (refkeycmp_any a b w) fun w' => is_v (w := w) rfl
theorem a_vlcheck (a : Vl) : AFn Try.prog 58 [a.av] (boolA a.ok) := fun U w vs h => by
  obtain ⟨v1, us, rfl, h1, h⟩ := rdp_one h
  obtain rfl := rdp_nil h
  rw [dVl.rdv.1 h1]
  exact ofIs (vlcheck_any a w) fun w' => is_v (w := w) rfl
theorem a_refvlcheck (a : Vl) : AFn Try.prog 61 [a.av] (boolA a.ok) := fun U w vs h => by
  obtain ⟨v1, us, rfl, h1, h⟩ := rdp_one h
  obtain rfl := rdp_nil h
  rw [dVl.rdv.1 h1]
  exact ofIs (refvlcheck_any a w) fun w' => is_v (w := w) rfl
theorem u64_arg {U : Uns} {w : World} {B : Blk} {H : Hp} {n : BitVec 64} {v : Value} (h : Rdv U w B H (u64A n) v) : v = .int .u64 (D64 n) := (Rdv_v.1 h).2
theorem int_arg {U : Uns} {w : World} {B : Blk} {H : Hp} {n : Int} {v : Value} (h : Rdv U w B H (intA n) v) : v = .int .i64 n := (Rdv_v.1 h).2
theorem a_plus (a : Vl) (n : BitVec 64) : AFn Try.prog 62 [a.av, u64A n] (vplus a n).av := fun U w vs h => by
  obtain ⟨v1, us, rfl, h1, h⟩ := rdp_one h
  obtain ⟨v2, us, rfl, h2, h⟩ := rdp_one h
  obtain rfl := rdp_nil h
  rw [dVl.rdv.1 h1, u64_arg h2]
  exact ofIs (plus_any a n w) fun w' => dVl.rdv.2 rfl
theorem a_refplus (a : Vl) (n : BitVec 64) : AFn Try.prog 49 [a.av, u64A n] (vplus a n).av := fun U w vs h => by
  obtain ⟨v1, us, rfl, h1, h⟩ := rdp_one h
  obtain ⟨v2, us, rfl, h2, h⟩ := rdp_one h
  obtain rfl := rdp_nil h
  rw [dVl.rdv.1 h1, u64_arg h2]
  exact ofIs (refplus_any a n w) fun w' => dVl.rdv.2 rfl
theorem a_lkey (v : Int) (hv : -9223372036854775808 ≤ v ∧ v ≤ 9223372036854775807) : AFn Try.prog 11 [intA v] (lawKey v).av := fun U w vs h => by
  obtain ⟨v1, us, rfl, h1, h⟩ := rdp_one h
  obtain rfl := rdp_nil h
  rw [int_arg h1]
  exact ofIs (lkey_any v w hv) fun w' => dKey.rdv.2 rfl
end Go.Proofs.Ytigbkhjcboecjaa
