/-
  LeafBuf: messages one by one, all at once, composed in a buffer: a leaf is the same behind them. Plain law.
-/
import Derived.Test.YtjgikfpcnmleoaaLeafPure
import Derived.Test.YtjgikfpcnmleoaaBufPure
namespace Go.Proofs.Ytjgikfpcnmleoaa
open Go Go.RowKit
set_option linter.unusedVariables false
set_option linter.unusedSimpArgs false

def apO (b : Option Msg) (o : Option Vl) : Option Vl := match b with
  | some m => ap m o
  | none => o
theorem ap_compose {y m : Msg} (hy : y.ok = true) (hm : m.ok = true) (hk : y.key = m.key) (o : Option Vl) : ap (composeM y m) o = ap m (ap y o) := by
  have h1 := Msg.spec hy
  have h2 := Msg.spec hm
  unfold composeM
  by_cases c : m.kind = 3
  · rw [if_neg (by simp [c, hk])]
    by_cases c1 : y.kind = 1
    · rw [if_pos c1]; simp [ap, c, c1]
    · rw [if_neg c1]
      by_cases c2 : y.kind = 2
      · rw [if_pos c2]; simp [ap, c, c1, c2]
      · rw [if_neg c2]
        cases o with
        | none => simp [ap, c, c1, c2, vplus_from]
        | some v => simp [ap, c, c1, c2, vplus_plus]
  · rw [if_pos (.inl c)]
    unfold ap
    by_cases c1 : m.kind = 1
    · rw [if_pos c1, if_pos c1]
    · have c2 : m.kind = 2 := by omega
      rw [if_neg c1, if_neg c1, if_pos c2, if_pos c2]
theorem ap_newM {m : Msg} (hm : m.ok = true) {b : Option Msg} (hb : ∀ y, b = some y → y.ok = true ∧ y.key = m.key) (o : Option Vl) : ap (newM m b) o = ap m (apO b o) := by
  cases b with
  | none => rfl
  | some y => exact ap_compose (hb y rfl).1 hm (hb y rfl).2 o
/-- what messages make of one key's value, one by one -/
def runV (x : Key) (ms : List Msg) (o : Option Vl) : Option Vl := ms.foldl (fun o m => if x = m.key then ap m o else o) o
theorem get_all {x : Key} (hx : x.ok = true) : ∀ {ms : List Msg} {l : List Ent}, Lf l → (∀ m ∈ ms, m.ok = true) → lfGet x (lfAll l ms) = runV x ms (lfGet x l)
  | [], l, _, _ => rfl
  | m :: ms, l, h, hm => by
    have hm0 := hm m (by simp)
    have ih := get_all hx (ms := ms) (lf_put h hm0) (fun y hy => hm y (List.mem_cons_of_mem _ hy))
    have e1 : lfAll l (m :: ms) = lfAll (lfPut l m) ms := rfl
    rw [e1, ih, get_put h hm0 hx]
    unfold runV
    rw [List.foldl_cons]
    by_cases c : x = m.key
    · rw [if_pos c, if_pos c, c]
    · rw [if_neg c, if_neg c]
theorem get_ball {x : Key} (hx : x.ok = true) (o : Option Vl) : ∀ {ms b : List Msg}, Bf b → (∀ m ∈ ms, m.ok = true) → apO (bfGet x (bfAll b ms)) o = runV x ms (apO (bfGet x b) o)
  | [], b, _, _ => rfl
  | m :: ms, b, h, hm => by
    have hm0 := hm m (by simp)
    have ih := get_ball hx o (ms := ms) (bf_add h hm0) (fun y hy => hm y (List.mem_cons_of_mem _ hy))
    have e1 : bfAll b (m :: ms) = bfAll (bfAdd b m) ms := rfl
    rw [e1, ih, get_add h hm0 hx]
    unfold runV
    rw [List.foldl_cons]
    by_cases c : x = m.key
    · rw [if_pos c, if_pos c]
      congr 1
      show ap (newM m (bfGet m.key b)) o = _
      rw [ap_newM hm0 (fun y hy => ⟨bget_ok h _ y hy, ((bfGet_iff h.srt _ y).1 hy).2⟩), c]
    · rw [if_neg c, if_neg c]
theorem runV_bf {x : Key} (o : Option Vl) : ∀ {b : List Msg}, BSrt b → runV x b o = apO (bfGet x b) o
  | [], _ => rfl
  | m :: b, h => by
    have e1 : runV x (m :: b) o = runV x b (if x = m.key then ap m o else o) := rfl
    rw [e1, runV_bf _ h.tail]
    by_cases c : x = m.key
    · have hg : bfGet x b = none := by
        unfold bfGet
        rw [List.find?_eq_none]
        intro y hy
        have := h.head y hy
        simp only [decide_eq_true_eq]
        intro e
        rw [e, c] at this; omega
      have hg2 : bfGet x (m :: b) = some m := by unfold bfGet; rw [List.find?_cons_of_pos]; simp [c]
      rw [if_pos c, hg, hg2]
      rfl
    · have hg2 : bfGet x (m :: b) = bfGet x b := by unfold bfGet; rw [List.find?_cons_of_neg]; simp; exact fun e => c e.symm
      rw [if_neg c, hg2]
/-- composed in a buffer they do the same -/
theorem all_ball {l : List Ent} (h : Lf l) {ms : List Msg} (hm : ∀ m ∈ ms, m.ok = true) : lfAll l (bfAll [] ms) = lfAll l ms := by
  have hb := bf_all bf_nil hm
  refine lf_ext (lf_all h hb.ok) (lf_all h hm) fun x hx => ?_
  rw [get_all hx h hb.ok, get_all hx h hm, runV_bf _ hb.srt, get_ball hx _ bf_nil hm]
  rfl
theorem all_cut (l : List Ent) (ms : List Msg) (k : Nat) : lfAll (lfAll l (ms.take k)) (ms.drop k) = lfAll l ms := by
  unfold lfAll
  rw [← List.foldl_append, List.take_append_drop]
end Go.Proofs.Ytjgikfpcnmleoaa
