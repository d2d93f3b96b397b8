/-
  M4: several texts as one: FanPure, KeyRefs, KeyWalks, NumPure, NumWalks, VlWalks, VlProg, Law00Walks, Afn, AbsStr, OwnOps, CrcPure, CrcW, Codec1, OwnBytes, Msg, BufPure, BufPlace, BufWalks, BufMore, BufMore2, BufParts, AfnFan0, AfnFan, AfnRef8, AfnPlace. No condition beyond those that each theorem states.
-/
import Derived.Test.YtcmdhpinelnclaaM3
import Derived.Lib.AppendZerosOnto
namespace Go.Proofs.Ytcmdhpinelnclaa
open Go Go.RowKit
set_option linter.unusedVariables false
set_option linter.unusedSimpArgs false
set_option maxRecDepth 100000

/-- the first place of a number, from place i on; -1 -/
def idxFrom (x : Int) : Nat → List Int → Int
  | _, [] => -1
  | i, y :: l => if y = x then (i : Int) else idxFrom x (i + 1) l
def idxOf (l : List Int) (x : Int) : Int := idxFrom x 0 l
theorem idxFrom_hit (l : List Int) (x : Int) (i : Nat) (h : i < l.length) (e : l[i] = x) : idxFrom x i (l.drop i) = i := by
  rw [List.drop_eq_getElem_cons h, idxFrom, if_pos e]
theorem idxFrom_miss (l : List Int) (x : Int) (i : Nat) (h : i < l.length) (e : l[i] ≠ x) : idxFrom x i (l.drop i) = idxFrom x (i + 1) (l.drop (i + 1)) := by
  rw [List.drop_eq_getElem_cons h, idxFrom, if_neg e]
theorem idxFrom_end (l : List Int) (x : Int) (i : Nat) (h : l.length ≤ i) : idxFrom x i (l.drop i) = -1 := by
  rw [List.drop_eq_nil_of_le h]; rfl
/-- each number from place i on is a block's and stands first there -/
def kidsFrom (all : List Int) : Nat → List Int → Bool
  | _, [] => true
  | i, y :: l => decide (1 ≤ y) && decide (y < 256) && decide (idxOf all y = (i : Int)) && kidsFrom all (i + 1) l
/-- keys that are right and rise, each against the one ahead -/
def risesBy (cmp : Key → Key → Int) : Option Key → List Key → Bool
  | _, [] => true
  | p, k :: l => k.ok && (match p with | none => true | some q => decide (cmp q k < 0)) && risesBy cmp (some k) l
def fanOkBy (cmp : Key → Key → Int) (ks : List Int) (cs : List Key) : Bool :=
  decide (2 ≤ ks.length) && decide (ks.length ≤ 4) && decide (cs.length + 1 = ks.length) && kidsFrom ks 0 ks && risesBy cmp none cs
theorem risesBy_eq : ∀ (l : List Key) (p : Option Key), (∀ q, p = some q → q.ok = true) → risesBy refCmp p l = risesBy keyCmp p l
  | [], _, _ => rfl
  | k :: l, p, h => by
    simp only [risesBy]
    cases hk : k.ok
    · simp
    · rw [risesBy_eq l (some k) (fun q e => by injection e with e; rw [← e]; exact hk)]
      cases p with
      | none => rfl
      | some q =>
        have e := refCmp_key (h q rfl) hk
        simp only [e]
theorem fanOk_eq (ks : List Int) (cs : List Key) : fanOkBy refCmp ks cs = fanOkBy keyCmp ks cs := by
  unfold fanOkBy
  rw [risesBy_eq cs none (fun q e => by cases e)]
theorem kidsFrom_step (all l : List Int) (i : Nat) (h : i < l.length) : kidsFrom all i (l.drop i) = (decide (1 ≤ l[i]) && decide (l[i] < 256) && decide (idxOf all l[i] = (i : Int)) && kidsFrom all (i + 1) (l.drop (i + 1))) := by
  rw [List.drop_eq_getElem_cons h, kidsFrom]
theorem kidsFrom_end (all l : List Int) (i : Nat) (h : l.length ≤ i) : kidsFrom all i (l.drop i) = true := by
  rw [List.drop_eq_nil_of_le h]; rfl
def ahead (l : List Key) : Nat → Option Key
  | 0 => none
  | i + 1 => l[i]?
theorem risesBy_step0 (cmp : Key → Key → Int) (l : List Key) (h : 0 < l.length) : risesBy cmp (ahead l 0) (l.drop 0) = (l[0].ok && risesBy cmp (ahead l 1) (l.drop 1)) := by
  rw [List.drop_eq_getElem_cons h]
  simp [ahead, h, risesBy]
theorem risesBy_step (cmp : Key → Key → Int) (l : List Key) (i : Nat) (h : i + 1 < l.length) : risesBy cmp (ahead l (i + 1)) (l.drop (i + 1)) = (l[i + 1].ok && decide (cmp l[i] l[i + 1] < 0) && risesBy cmp (ahead l (i + 2)) (l.drop (i + 2))) := by
  rw [List.drop_eq_getElem_cons h]
  simp only [ahead]
  rw [List.getElem?_eq_getElem (show i < l.length by omega), List.getElem?_eq_getElem h]
  rfl
theorem risesBy_end (cmp : Key → Key → Int) (l : List Key) (p : Option Key) (i : Nat) (h : l.length ≤ i) : risesBy cmp p (l.drop i) = true := by
  rw [List.drop_eq_nil_of_le h]; rfl
/-- to which kid a key goes -/
def kidBy (cmp : Key → Key → Int) (k : Key) (l : List Key) : Nat := l.countP fun p => decide (cmp p k ≤ 0)
end Go.Proofs.Ytcmdhpinelnclaa

namespace Go.Proofs.Ytcmdhpinelnclaa
open Go Go.RowKit
set_option linter.unusedVariables false
set_option linter.unusedSimpArgs false
set_option maxRecDepth 100000


set_option maxHeartbeats 1000000 in
/-- the document's Check -/
theorem refkeycheck_any (k : Key) (w : World) : Calls Try.prog 79 #[.agg k.arr] w (Is w (.bool k.ok)) := by
  by_cases h0 : k.n < 0
  · have hok : k.ok = false := (Key.ok_false k).2 (.inl h0)
    go_enter Try.func79, Try.ntmps79
    go_wp2
    go_ret
    exact ⟨by simp [hok], (by repeat (first | exact Ext.refl _ | assumption | refine Ext.drew ?_ | refine Ext.drewN ?_ _ | refine Ext.alloc ?_ _ | refine Ext.trans ?_ (by assumption)))⟩
  have h0' : 0 ≤ k.n := by omega
  by_cases h8 : 8 < k.n
  · have hok : k.ok = false := (Key.ok_false k).2 (.inr (.inl h8))
    go_enter Try.func79, Try.ntmps79
    go_wp2
    go_ret
    exact ⟨by simp [hok], (by repeat (first | exact Ext.refl _ | assumption | refine Ext.drew ?_ | refine Ext.drewN ?_ _ | refine Ext.alloc ?_ _ | refine Ext.trans ?_ (by assumption)))⟩
  have h8' : k.n ≤ 8 := by omega
  obtain ⟨n, hn⟩ : ∃ n : Nat, k.n = (n : Int) := ⟨k.n.toNat, by omega⟩
  have H0 := Lib.hid hn
  have hn8 : n ≤ 8 := by omega
  clear hn
  go_enter Try.func79, Try.ntmps79
  go_wp2
  go_loop [3] (fun x => ∃ i : Nat, n ≤ i ∧ i ≤ 8 ∧ x = .int .i64 i ∧ ∀ j (h : j < 8), n ≤ j → j < i → k.b[j] = 0#8) (fun x => 8 - (intOf x).toNat)
  case atStart => exact ⟨n, by omega, by omega, by rw [H0.out], fun j _ h1 h2 => absurd h1 (by omega)⟩
  case round =>
    obtain ⟨i, h1, h2, rfl, hz⟩ := hrel
    have HZ := Lib.hid hz
    clear hz
    have H0' := H0.out
    have hni : k.n ≤ i := by omega
    clear H0'
    by_cases hlt : i < 8
    · by_cases hb : k.b[i] = 0#8
      · go_wp2
        go_round
        case rel =>
          refine ⟨i + 1, by omega, by omega, by go_num, fun j hj h3 h4 => ?_⟩
          by_cases h5 : j = i
          · subst h5; exact hb
          · exact HZ.out j hj h3 (by omega)
        case measure => simp [intOf]; omega
      · have hok : k.ok = false := (Key.ok_false k).2 (.inr (.inr fun h => hb ((trunc_iff _ _).1 h i hlt (by omega))))
        go_wp2
        go_ret
        exact ⟨by simp [hok], (by repeat (first | exact Ext.refl _ | assumption | refine Ext.drew ?_ | refine Ext.drewN ?_ _ | refine Ext.alloc ?_ _ | refine Ext.trans ?_ (by assumption)))⟩
    · obtain rfl : i = 8 := by omega
      have hok : k.ok = true := (Key.ok_iff k).2 ⟨h0', h8', (trunc_iff _ _).2 fun j hj h3 => HZ.out j hj (by rw [H0.out] at h3; omega) hj⟩
      go_wp2
      go_ret
      exact ⟨by simp [hok], (by repeat (first | exact Ext.refl _ | assumption | refine Ext.drew ?_ | refine Ext.drewN ?_ _ | refine Ext.alloc ?_ _ | refine Ext.trans ?_ (by assumption)))⟩

set_option maxHeartbeats 4000000 in
/-- the document's Compare -/
theorem refkeycmp_any (a b : Key) (w : World) : Calls Try.prog 76 #[.agg a.arr, .agg b.arr] w (Is w (.int .i64 (refCmp a b))) := by
  have H := Lib.hid (refCmp_def a b)
  go_enter Try.func76, Try.ntmps76
  go_wp2
  go_loopw [5] (fun x wr => ∃ i m : Nat, i ≤ 8 ∧ x = .int .i64 i ∧ refCmp a b = cmpFrom a b (8 - i) i ∧ wr = ((w.alloc (.cells a.arr 59)).alloc (.cells b.arr 59)).drewN m) (fun x _ => 8 - (intOf x).toNat)
  case atStart => exact ⟨0, 0, by omega, rfl, H.out, rfl⟩
  case round =>
    obtain ⟨i, m, hi, rfl, he, rfl⟩ := hrel
    have HE := Lib.hid he
    clear he
    by_cases hlt : i < 8
    · by_cases h1 : a.n ≤ i
      · by_cases h2 : b.n ≤ i
        · have HC := Lib.hid (HE.out.trans (cmpFrom_ends (c := 0) hlt (by unfold cmpAt; rw [if_pos ⟨h1, h2⟩])))
          go_wp2
          go_ret
          exact ⟨by simp [HC.out], (by repeat (first | exact Ext.refl _ | assumption | refine Ext.drew ?_ | refine Ext.drewN ?_ _ | refine Ext.alloc ?_ _ | refine Ext.trans ?_ (by assumption)))⟩
        · have HC := Lib.hid (HE.out.trans (cmpFrom_ends (c := -1) hlt (by unfold cmpAt; rw [if_neg (by omega), if_pos h1])))
          have h2' : (i : Int) < b.n := by omega
          go_wp2
          go_ret
          exact ⟨by simp [HC.out], (by repeat (first | exact Ext.refl _ | assumption | refine Ext.drew ?_ | refine Ext.drewN ?_ _ | refine Ext.alloc ?_ _ | refine Ext.trans ?_ (by assumption)))⟩
      · have h1' : (i : Int) < a.n := by omega
        by_cases h2 : b.n ≤ i
        · have HC := Lib.hid (HE.out.trans (cmpFrom_ends (c := 1) hlt (by unfold cmpAt; rw [if_neg (by omega), if_neg h1, if_pos h2])))
          go_wp2
          go_ret
          exact ⟨by simp [HC.out], (by repeat (first | exact Ext.refl _ | assumption | refine Ext.drew ?_ | refine Ext.drewN ?_ _ | refine Ext.alloc ?_ _ | refine Ext.trans ?_ (by assumption)))⟩
        · have h2' : (i : Int) < b.n := by omega
          have hlt' : (i : Int) < 8 := by omega
          have h0' : (0 : Int) ≤ (i : Int) := by omega
          have ga : a.b.toList.getD i 0 = a.b[i] := by simp [List.getD_eq_getElem?_getD, hlt]
          have gb : b.b.toList.getD i 0 = b.b[i] := by simp [List.getD_eq_getElem?_getD, hlt]
          by_cases h3 : B8 a.b[i] < B8 b.b[i]
          · have HC := Lib.hid (HE.out.trans (cmpFrom_ends (c := -1) hlt (by unfold cmpAt; rw [if_neg (by omega), if_neg h1, if_neg h2, ga, gb, if_pos (by rwa [B8_ltB] at h3)])))
            clear ga gb
            go_wp2
            go_quiet (fail)
            go_wp2
            go_ret
            exact ⟨by simp [HC.out], (by repeat (first | exact Ext.refl _ | assumption | refine Ext.drew ?_ | refine Ext.drewN ?_ _ | refine Ext.alloc ?_ _ | refine Ext.trans ?_ (by assumption)))⟩
          · by_cases h4 : B8 b.b[i] < B8 a.b[i]
            · have HC := Lib.hid (HE.out.trans (cmpFrom_ends (c := 1) hlt (by unfold cmpAt; rw [if_neg (by omega), if_neg h1, if_neg h2, ga, gb, if_neg (by rwa [B8_ltB] at h3), if_pos (by rwa [B8_ltB] at h4)])))
              clear ga gb
              go_wp2
              go_quiet (fail)
              go_wp2
              go_quiet (fail)
              go_wp2
              go_ret
              exact ⟨by simp [HC.out], (by repeat (first | exact Ext.refl _ | assumption | refine Ext.drew ?_ | refine Ext.drewN ?_ _ | refine Ext.alloc ?_ _ | refine Ext.trans ?_ (by assumption)))⟩
            · have HC := Lib.hid (HE.out.trans (cmpFrom_on hlt (by unfold cmpAt; rw [if_neg (by omega), if_neg h1, if_neg h2, ga, gb, if_neg (by rwa [B8_ltB] at h3), if_neg (by rwa [B8_ltB] at h4)])))
              clear ga gb
              go_wp2
              go_quiet (fail)
              go_wp2
              go_quiet (fail)
              go_wp2
              go_round
              case rel => exact ⟨i + 1, _, by omega, by go_num, HC.out, rfl⟩
              case measure => simp [intOf]; omega
    · obtain rfl : i = 8 := by omega
      have HC := Lib.hid (HE.out.trans (show cmpFrom a b (8 - 8) 8 = 0 from rfl))
      go_wp2
      go_ret
      exact ⟨by simp [HC.out], (by repeat (first | exact Ext.refl _ | assumption | refine Ext.drew ?_ | refine Ext.drewN ?_ _ | refine Ext.alloc ?_ _ | refine Ext.trans ?_ (by assumption)))⟩

end Go.Proofs.Ytcmdhpinelnclaa

namespace Go.Proofs.Ytcmdhpinelnclaa
open Go Go.RowKit
set_option linter.unusedVariables false
set_option linter.unusedSimpArgs false
set_option maxRecDepth 100000

/-! ### the program's Check, Text, Compare -/
set_option maxRecDepth 100000 in
set_option maxHeartbeats 4000000 in
/-- the program's Check -/
theorem keycheck_any (k : Key) (w : World) : Calls Try.prog 115 #[.agg k.arr] w (Is w (.bool k.ok)) := by
  by_cases h0 : k.n < 0
  · have hok : k.ok = false := (Key.ok_false k).2 (.inl h0)
    go_enter Try.func115, Try.ntmps115
    go_wp2
    go_ret
    exact ⟨by simp [hok], (by repeat (first | exact Ext.refl _ | assumption | refine Ext.drew ?_ | refine Ext.drewN ?_ _ | refine Ext.alloc ?_ _ | refine Ext.trans ?_ (by assumption)))⟩
  have h0' : 0 ≤ k.n := by omega
  by_cases h8 : 8 < k.n
  · have hok : k.ok = false := (Key.ok_false k).2 (.inr (.inl h8))
    go_enter Try.func115, Try.ntmps115
    go_wp2
    go_ret
    exact ⟨by simp [hok], (by repeat (first | exact Ext.refl _ | assumption | refine Ext.drew ?_ | refine Ext.drewN ?_ _ | refine Ext.alloc ?_ _ | refine Ext.trans ?_ (by assumption)))⟩
  have h8' : k.n ≤ 8 := by omega
  obtain ⟨kn, kb⟩ := k
  obtain ⟨n, rfl⟩ : ∃ n : Nat, kn = (n : Int) := ⟨kn.toNat, by simp at h0'; omega⟩
  have hn8 : n ≤ 8 := by simp at h8'; omega
  have hn8' : (n : Int) ≤ 8 := by omega
  go_enter Try.func115, Try.ntmps115
  go_wp2
  have hmin : min 8 n = n := by omega
  go_region_held3 (fun W => W.cell? ⟨w.heap.size, 0, none⟩ = some (.int .i64 (n : Int))) ((simp [go_sem])) (fail)
  go_wp2
  go_ret
  have hk : (Key.mk (n : Int) kb).ok = decide (trunc kb n = kb) := by rw [Bool.eq_iff_iff, Key.ok_iff]; simp [hn8']
  exact ⟨by rw [hk, over_zero_cut]; rfl, (by repeat (first | exact Ext.refl _ | assumption | refine Ext.drew ?_ | refine Ext.drewN ?_ _ | refine Ext.alloc ?_ _ | refine Ext.trans ?_ (by assumption)))⟩

set_option maxRecDepth 100000 in
set_option maxHeartbeats 4000000 in
/-- the program's Text -/
theorem keytext_any (k : Key) (w : World) : Calls Try.prog 120 #[.agg k.arr] w (Is w (.string (bytesOf k.txt))) := by
  cases hok : k.ok
  · have htx := Key.txt_no hok
    go_enter Try.func120, Try.ntmps120
    go_wp2_with fail
    refine (keycheck_any _ _).mono ?_
    rintro e w1 ⟨rfl, he1⟩
    go_wp2
    go_ret
    exact ⟨by rw [htx, bytesOf_nil]; rfl, (by repeat (first | exact Ext.refl _ | assumption | refine Ext.drew ?_ | refine Ext.drewN ?_ _ | refine Ext.alloc ?_ _ | refine Ext.trans ?_ (by assumption)))⟩
  · have htx := Key.txt_ok hok
    obtain ⟨h0, h8, -⟩ := (Key.ok_iff k).1 hok
    obtain ⟨kn, kb⟩ := k
    obtain ⟨n, rfl⟩ : ∃ n : Nat, kn = (n : Int) := ⟨kn.toNat, by simp at h0; omega⟩
    have hn8 : n ≤ 8 := by simp at h8; omega
    have hn8' : (n : Int) ≤ 8 := by omega
    have HT := Lib.hid htx
    clear htx
    go_enter Try.func120, Try.ntmps120
    go_wp2_with fail
    refine (keycheck_any _ _).mono ?_
    rintro e w1 ⟨rfl, he1⟩
    have hr : row? w1 w.heap.size 0 9 = some (Key.mk (n : Int) kb).arr := he1.row (by simp [go_sem])
    have hc := row_cell hr (j := 0) (by omega) (Key.arr_n _)
    have hs := sl_of_bArr (g := w.heap.size) (o := 1) (w := w1) (b := kb) (by rw [← Nat.zero_add 1, row_sub hr 1 8 (by omega)]; exact Key.row_b _) n 8 hn8 hn8 (by unfold maxLen; omega)
    have hcv := run_str_sl Try.underlying33 Try.underlying5 Try.underlying9 hs
    clear hs
    simp only [Nat.zero_add] at hc
    go_wp2
    go_ret
    exact ⟨by rw [HT.out]; rfl, (by repeat (first | exact Ext.refl _ | assumption | refine Ext.drew ?_ | refine Ext.drewN ?_ _ | refine Ext.alloc ?_ _ | refine Ext.trans ?_ (by assumption)))⟩


set_option maxRecDepth 100000 in
set_option maxHeartbeats 1000000 in
theorem cmpstring_any (a b : ByteArray) (w : World) : Calls Try.prog 121 #[.string a, .string b] w fun e w' => e = .returned (.int .i64 (Lib.compareBytes a.data.toList b.data.toList)) ∧ w' = w := by
  go_enter Try.func121, Try.ntmps121
  go_wp2
  rw [run_callFunc_extern Try.func122 (by kernel_rfl) (by kernel_rfl) (by kernel_rfl) (e := Extern.BytealgCompare.compare) (by kernel_rfl), Lib.run_compareString]
  simp only [Result.andThen]
  rw [Oper.upon_value]
  go_wp2
  go_ret
  exact ⟨rfl, rfl⟩
theorem strcmp_any (k m : List (BitVec 8)) (w : World) : Calls Try.prog 119 #[.string (bytesOf k), .string (bytesOf m)] w fun e w' => e = .returned (.int .i64 (lexCmp k m)) ∧ w' = w := by
  have H := Lib.hid (compareBytes_eq k m)
  go_enter Try.func119, Try.ntmps119
  go_wp2_with (go_at_call 121; refine (cmpstring_any _ _ _).mono ?_; rintro e w1 ⟨rfl, rfl⟩)
  go_ret
  exact ⟨by rw [H.out]; rfl, rfl⟩

set_option maxRecDepth 100000 in
set_option maxHeartbeats 4000000 in
/-- the program's Compare -/
theorem keycmp_any (a b : Key) (w : World) : Calls Try.prog 117 #[.agg a.arr, .agg b.arr] w (Is w (.int .i64 (keyCmp a b))) := by
  go_enter Try.func117, Try.ntmps117
  go_wp2
  have hA : row? ((w.alloc (.cells a.arr 59)).alloc (.cells b.arr 59)) w.heap.size 0 9 = some a.arr := by simp [go_sem]
  have hB : row? ((w.alloc (.cells a.arr 59)).alloc (.cells b.arr 59)) (w.heap.size + 1) 0 9 = some b.arr := by simp [go_sem]
  go_region_held3 (fun W => row? W w.heap.size 0 9 = some a.arr ∧ row? W (w.heap.size + 1) 0 9 = some b.arr)
    (exact ⟨Ext.row (by repeat (first | exact Ext.refl _ | assumption | refine Ext.drew ?_ | refine Ext.drewN ?_ _ | refine Ext.alloc ?_ _ | refine Ext.trans ?_ (by assumption))) hA, Ext.row (by repeat (first | exact Ext.refl _ | assumption | refine Ext.drew ?_ | refine Ext.drewN ?_ _ | refine Ext.alloc ?_ _ | refine Ext.trans ?_ (by assumption))) hB⟩)
    ((first | (go_at_call 120; refine (keytext_any _ _).mono ?_; rintro e w1 ⟨rfl, he1⟩) | (go_at_call 119; refine (strcmp_any _ _ _).mono ?_; rintro e w1 ⟨rfl, rfl⟩)))
  all_goals go_wp2
  all_goals go_ret
  all_goals exact ⟨rfl, (by repeat (first | exact Ext.refl _ | assumption | refine Ext.drew ?_ | refine Ext.drewN ?_ _ | refine Ext.alloc ?_ _ | refine Ext.trans ?_ (by assumption)))⟩
end Go.Proofs.Ytcmdhpinelnclaa

namespace Go.Proofs.Ytcmdhpinelnclaa
open Go Go.RowKit
set_option linter.unusedVariables false
set_option linter.unusedSimpArgs false
set_option maxRecDepth 100000

/-- the number that bytes are -/
def leNum : List (BitVec 8) → BitVec 64
  | [] => 0#64
  | b :: bs => (leNum bs <<< 8) ||| b.setWidth 64
/-- a number's bytes -/
def leBytes (n : BitVec 64) : Nat → List (BitVec 8)
  | 0 => []
  | w + 1 => n.setWidth 8 :: leBytes (n >>> 8) w
theorem leBytes_length (n : BitVec 64) (w : Nat) : (leBytes n w).length = w := by
  induction w generalizing n with
  | zero => rfl
  | succ w ih => simp [leBytes, ih]
theorem leBytes_get (n : BitVec 64) (w i : Nat) (h : i < w) : (leBytes n w)[i]? = some ((n >>> (8 * i)).setWidth 8) := by
  induction w generalizing n i with
  | zero => omega
  | succ w ih =>
    cases i with
    | zero => simp [leBytes]
    | succ i =>
      rw [leBytes, List.getElem?_cons_succ, ih _ _ (by omega), ← BitVec.shiftRight_add, show 8 + 8 * i = 8 * (i + 1) from by omega]
theorem leBytes_snoc (n : BitVec 64) (w : Nat) : leBytes n (w + 1) = leBytes n w ++ [(n >>> (8 * w)).setWidth 8] := by
  apply List.ext_getElem?
  intro i
  rw [List.getElem?_append, leBytes_length]
  by_cases h : i < w
  · rw [if_pos h, leBytes_get _ _ _ h, leBytes_get _ _ _ (by omega)]
  · rw [if_neg h]
    by_cases h2 : i = w
    · subst h2; rw [leBytes_get _ _ _ (by omega)]; simp
    · rw [List.getElem?_eq_none (by rw [leBytes_length]; omega), List.getElem?_eq_none (by simp; omega)]
theorem leNum_bit (bs : List (BitVec 8)) (b : BitVec 8) (i : Nat) (h : i < 64) : (leNum (b :: bs)).getLsbD i = if i < 8 then b.getLsbD i else (leNum bs).getLsbD (i - 8) := by
  rw [leNum, BitVec.getLsbD_or, BitVec.getLsbD_shiftLeft, BitVec.getLsbD_setWidth]
  by_cases h8 : i < 8
  · rw [if_pos h8]; simp [h8, h]
  · rw [if_neg h8, BitVec.getLsbD_of_ge b i (by omega)]; simp [h8, h]
theorem leNum_leBytes (n : BitVec 64) (w i : Nat) (h : i < 64) : (leNum (leBytes n w)).getLsbD i = (decide (i < 8 * w) && n.getLsbD i) := by
  induction w generalizing n i with
  | zero => simp [leBytes, leNum]
  | succ w ih =>
    rw [leBytes, leNum_bit _ _ _ h]
    by_cases h8 : i < 8
    · rw [if_pos h8]; simp [h8, show i < 8 * (w + 1) from by omega]
    · rw [if_neg h8, ih _ _ (by omega), BitVec.getLsbD_ushiftRight, show 8 + (i - 8) = i from by omega]
      congr 1
      rw [decide_eq_decide]; omega
theorem leNum_bytes (n : BitVec 64) : leNum (leBytes n 8) = n := by
  apply BitVec.eq_of_getLsbD_eq
  intro i hi
  rw [leNum_leBytes _ _ _ hi]
  simp [hi]
def numOf (v : Vl) : BitVec 64 := leNum (v.b.toList.take 8)
def fromN (n : BitVec 64) : Vl := mkVl (leBytes n 8)
def vplus (v : Vl) (by_ : BitVec 64) : Vl := fromN (numOf v + by_)
theorem fromN_ok (n : BitVec 64) : (fromN n).ok = true := mkVl_ok _ (by rw [leBytes_length]; omega)
end Go.Proofs.Ytcmdhpinelnclaa

namespace Go.Proofs.Ytcmdhpinelnclaa
open Go Go.RowKit
set_option linter.unusedVariables false
set_option linter.unusedSimpArgs false
set_option maxRecDepth 100000

theorem wrap_u64' (n : Int) : IntKind.u64.wrap n = n % 18446744073709551616 := by simp [IntKind.wrap, IntKind.bits, IntKind.signed]
theorem D64_lt (x : BitVec 64) : D64 x < 18446744073709551616 := by rw [D64_def]; have := x.isLt; omega
theorem D64_shr8 (x : BitVec 64) : D64 x / (256 : Int) = D64 (x >>> 8) := by
  rw [D64_def, D64_def, BitVec.toNat_ushiftRight, Nat.shiftRight_eq_div_pow]; omega
theorem B8_of_D64 (x : BitVec 64) : IntKind.u8.wrap (D64 x) = B8 (x.setWidth 8) := by
  rw [IntKind.wrap_u8', D64_def, B8_def, BitVec.toNat_setWidth]; omega
theorem D64_and255 (x : BitVec 64) : bits .and .u64 (D64 x) 255 = D64 (x &&& 255#64) := by
  rw [D64_def, D64_def, BitVec.toNat_and]
  have h := u64_and_nat x.toNat 255 x.isLt (by omega)
  exact h
theorem D64_or (x y : BitVec 64) : bits .or .u64 (D64 x) (D64 y) = D64 (x ||| y) := by
  rw [D64_def, D64_def, D64_def, BitVec.toNat_or]
  exact u64_or_nat x.toNat y.toNat x.isLt y.isLt
theorem D64_of_B8 (x : BitVec 8) : IntKind.u64.wrap (B8 x) = D64 (x.setWidth 64) := by
  rw [wrap_u64', D64_def, B8_def, BitVec.toNat_setWidth]; have := x.isLt; omega
theorem D64_shl8 (x : BitVec 64) : IntKind.u64.wrap (D64 x * 256) = D64 (x <<< 8) := by
  rw [wrap_u64', D64_def, D64_def, BitVec.toNat_shiftLeft, Nat.shiftLeft_eq]; omega
theorem D64_add (x y : BitVec 64) : IntKind.u64.wrap (D64 x + D64 y) = D64 (x + y) := by
  rw [wrap_u64', D64_def, D64_def, D64_def, BitVec.toNat_add]; omega
attribute [go_sem] D64_shr8 B8_of_D64 D64_and255 D64_nonneg D64_lt D64_or D64_of_B8 D64_shl8 D64_add

theorem and255_byte (x : BitVec 64) : (x &&& 255#64).setWidth 8 = x.setWidth 8 := by
  apply BitVec.eq_of_getLsbD_eq
  intro i hi
  rw [BitVec.getLsbD_setWidth, BitVec.getLsbD_setWidth, BitVec.getLsbD_and]
  have : (255#64).getLsbD i = true := by
    have h : ∀ j, j < 8 → (255#64).getLsbD j = true := by decide
    exact h i hi
  rw [this]; simp
theorem and255_8 (x : BitVec 8) : x &&& 255#8 = x := by
  have : (255#8 : BitVec 8) = BitVec.allOnes 8 := rfl
  rw [this, BitVec.and_allOnes]
attribute [go_sem] and255_byte and255_8

set_option maxRecDepth 100000 in
set_option maxHeartbeats 2000000 in
/-- the document's Put -/
theorem refput_any (v : Value) (xs : List (BitVec 8)) (n : BitVec 64) (wd : Nat) (w : World) (h : Sl be 1 w v xs) (hx : xs.length ≤ 100000000000000) (h1 : 1 ≤ wd) (h8 : wd ≤ 8) :
    Calls Try.prog 43 #[v, .int .u64 (D64 n), .int .i64 (wd : Int)] w (Ret w fun u w' => Own w.heap.size 5 be 1 w' u (xs ++ leBytes n wd)) := by
  go_enter Try.func43, Try.ntmps43
  go_wp2_with (at_builtin; refine wpList_append_sl (by rfl) (.tmp 9) (.tmp 10) (by rfl) slT_bytes be_ok (by rfl) (by rfl) (Own.empty w.heap.size _ be 1 w (Nat.le_refl _)) (h.ext (by repeat (first | exact Ext.refl _ | assumption | refine Ext.drew ?_ | refine Ext.drewN ?_ _ | refine Ext.alloc ?_ _ | refine Ext.trans ?_ (by assumption)))) (by simp only [List.length_nil, maxLen]; omega) (by simp only [List.length_nil]; omega) (by simp) ?_; intro v1 W1 hown1 hg1 hat1; have he1 : Ext w W1 := ((Ext.refl w).alloc _).append hg1 (Own.empty w.heap.size _ be 1 w (Nat.le_refl _)) (Nat.le_refl _); simp only [List.nil_append] at hown1; clear hg1 hat1)
  go_loopw [1, 7, 8] (fun nn o i wr => ∃ k : Nat, k ≤ wd ∧ i = .int .i64 k ∧ nn = .int .u64 (D64 (n >>> (8 * k))) ∧ Own w.heap.size 5 be 1 wr o (xs ++ leBytes n k) ∧ Ext w wr) (fun _ _ i _ => wd - (intOf i).toNat)
  case atStart => exact ⟨0, by omega, rfl, rfl, by simpa [leBytes] using hown1, he1⟩
  case round =>
    obtain ⟨k, hk, rfl, rfl, hown, he⟩ := hrel
    have hl := leBytes_length n k
    have HL := Lib.hid hl
    clear hl
    by_cases hlt : k < wd
    · have HS := Lib.hid (leBytes_snoc n k)
      have HN := Lib.hid (show n >>> (8 * k) >>> 8 = n >>> (8 * (k + 1)) from by rw [← BitVec.shiftRight_add]; rfl)
      go_wp2_with (at_builtin; refine wpList_append_sl (by rfl) (.tmp 24) (.tmp 28) (by rfl) slT_bytes be_ok (by rfl) (by rfl) (hown.alloc _) (Sl.one be_ok wr 5 (0, 0) ((n >>> (8 * k)).setWidth 8)) (by simp only [List.length_append, HL.out, List.length_singleton, maxLen]; omega) (by simp only [List.length_append, HL.out, List.length_singleton]; omega) (by have := he.le; simp; omega) ?_; intro v2 W2 hown2 hg2 hat2; have he2 : Ext w W2 := (he.alloc _).append hg2 (hown.alloc _) (Nat.le_refl _); clear hg2 hat2)
      go_roundw
      case rel => exact ⟨k + 1, by omega, by go_num, by rw [HN.out], by rw [HS.out, ← List.append_assoc]; exact hown2, he2⟩
      case measure => simp [intOf]; omega
    · obtain rfl : k = wd := by omega
      go_wp2
      go_ret
      exact ⟨_, rfl, hown, he⟩

/-- so many bytes from a place on -/
def seg (xs : List (BitVec 8)) (at_ wd : Nat) : List (BitVec 8) := (xs.drop at_).take wd
theorem seg_step (xs : List (BitVec 8)) (at_ wd k : Nat) (h : at_ + wd ≤ xs.length) (hk : k < wd) : leNum ((seg xs at_ wd).drop k) = (leNum ((seg xs at_ wd).drop (k + 1)) <<< 8) ||| (xs[at_ + k]'(by omega)).setWidth 64 := by
  have hl : (seg xs at_ wd).length = wd := by unfold seg; simp; omega
  rw [List.drop_eq_getElem_cons (by omega), leNum]
  congr 2
  unfold seg; simp

set_option maxRecDepth 100000 in
set_option maxHeartbeats 4000000 in
/-- the document's Num -/
theorem refnum_any (v : Value) (xs : List (BitVec 8)) (at_ wd : Nat) (w : World) (h : Sl be 1 w v xs) (h1 : 1 ≤ wd) (h8 : wd ≤ 8) (ha : at_ + wd ≤ xs.length) :
    Calls Try.prog 36 #[v, .int .i64 (at_ : Int), .int .i64 (wd : Int)] w fun e w' => e = .returned (.tuple #[.int .u64 (D64 (leNum (seg xs at_ wd))), .bool true]) ∧ w' = w := by
  obtain ⟨A, cap, rfl, h0, hc, hA⟩ := h
  obtain ⟨b, off, rfl, hb, hr⟩ := hA (by omega)
  unfold maxLen at hc
  have hl : (seg xs at_ wd).length = wd := by unfold seg; simp; omega
  have i1 : ¬ (wd : Int) < 1 := by omega
  have i2 : ¬ 8 < (wd : Int) := by omega
  have i3 : ¬ (at_ : Int) < 0 := by omega
  have i4 : ¬ (xs.length : Int) - wd < at_ := by omega
  have HR := Lib.hid hr
  have HL := Lib.hid hl
  clear hr hA hl
  have HZ := Lib.hid (show (0 : Int) = D64 0#64 from D64_zero.symm)
  go_enter Try.func36, Try.ntmps36
  go_wp2
  go_loop [8, 9] (fun nn i => ∃ k : Nat, k ≤ wd ∧ i = .int .i64 ((k : Int) - 1) ∧ nn = .int .u64 (D64 (leNum ((seg xs at_ wd).drop k)))) (fun _ i => ((intOf i) + 1).toNat)
  case atStart => exact ⟨wd, by omega, rfl, by rw [List.drop_eq_nil_of_le (by rw [HL.out]; omega)]; simp only [leNum]; rw [D64_zero]⟩
  case round =>
    obtain ⟨k, hk, rfl, rfl⟩ := hrel
    by_cases hlt : 0 < k
    · obtain ⟨j, rfl⟩ : ∃ j, k = j + 1 := ⟨k - 1, by omega⟩
      have hc1 := SlAt.byte' HR.out (i := at_ + j) (by omega)
      have HS := Lib.hid (seg_step xs at_ wd j ha (by omega))
      have e1 : ((j + 1 : Nat) : Int) - 1 = (j : Int) := by omega
      rw [e1]
      have i5 : (0 : Int) ≤ (at_ : Int) + j := by omega
      have i6 : (at_ : Int) + j < xs.length := by omega
      have e2 : off + ((at_ : Int) + j).toNat = off + (at_ + j) := by omega
      have i7 : (0 : Int) ≤ (j : Int) := by omega
      clear e1
      go_wp2
      go_round
      case rel => exact ⟨j, by omega, by go_num, by rw [HS.out]⟩
      case measure => simp [intOf]
    · obtain rfl : k = 0 := by omega
      go_wp2
      exact bodyPost_ret (results_2 rfl res_tmp res_tmp) rfl ⟨rfl, rfl⟩
end Go.Proofs.Ytcmdhpinelnclaa

namespace Go.Proofs.Ytcmdhpinelnclaa
open Go Go.RowKit
set_option linter.unusedVariables false
set_option linter.unusedSimpArgs false
set_option maxRecDepth 100000

theorem over_take {m : Nat} (xs : List (BitVec 8)) (k : Nat) (hk : k < xs.length) : (over (Vector.replicate m 0#8) (xs.take k)).setIfInBounds k xs[k] = over (Vector.replicate m 0#8) (xs.take (k + 1)) := by
  apply Vector.ext
  intro i hi
  rw [over_get, Vector.getElem_setIfInBounds, over_get, List.getElem?_take, List.getElem?_take]
  by_cases h1 : k = i
  · subst h1; simp [hk]
  · by_cases h2 : i < k
    · simp [h1, h2, show i < k + 1 from by omega]
    · simp [h1, h2, show ¬ i < k + 1 from by omega]
theorem over_nil {m : Nat} (b : Vector (BitVec 8) m) : over b [] = b := by
  apply Vector.ext
  intro i hi
  rw [over_get]; simp
theorem bytes_at (xs : List (BitVec 8)) (k : Nat) (h : k < (bytesOf xs).size) : (((bytesOf xs)[k]'h).toNat : Int) = B8 (xs[k]'(by rw [bytesOf_size] at h; exact h)) := by
  have hk : k < xs.length := by rw [bytesOf_size] at h; exact h
  have h0 : (bytesOf xs).data[k]? = some (UInt8.ofBitVec (xs[k]'hk)) := by
    have e : (bytesOf xs).data = (xs.map UInt8.ofBitVec).toArray := by rw [bytesOf_def]
    rw [e]; simp [hk]
  rw [B8_def]
  congr 1
  have h2 : (bytesOf xs)[k]'h = (bytesOf xs).data[k]'h := rfl
  rw [h2, (Array.getElem?_eq_some_iff.1 h0).2]
  rfl
attribute [go_sem] bytes_at
set_option maxRecDepth 100000 in
set_option maxHeartbeats 1000000 in
/-- the document's Of -/
theorem refvlof_any (xs : List (BitVec 8)) (w : World) : Calls Try.prog 78 #[.string (bytesOf xs)] w (Is w (.tuple (if xs.length ≤ 16 then #[.agg (mkVl xs).arr, .int .i64 0] else #[.agg Vl.zero.arr, .int .i64 2]))) := by
  have hsz := bytesOf_size xs
  by_cases h16 : 16 < xs.length
  · have h16' : (16 : Int) < xs.length := by omega
    rw [if_neg (by omega)]
    go_enter Try.func78, Try.ntmps78
    go_wp2
    exact bodyPost_ret (results_2 rfl (res_cell Try.underlying62 rfl Vl.size' rfl (by simp [go_sem])) res_tmp) rfl ⟨rfl, (by repeat (first | exact Ext.refl _ | assumption | refine Ext.drew ?_ | refine Ext.drewN ?_ _ | refine Ext.alloc ?_ _ | refine Ext.trans ?_ (by assumption)))⟩
  · have h16' : ¬ (16 : Int) < xs.length := by omega
    rw [if_pos (by omega)]
    go_enter Try.func78, Try.ntmps78
    go_wp2
    go_loopw [5] (fun i wr => ∃ k : Nat, k ≤ xs.length ∧ i = .int .i64 k ∧ wr = (w.alloc (.cells Vl.zero.arr 62)).alloc (.cells (Vl.mk xs.length (over (Vector.replicate 16 0#8) (xs.take k))).arr 62)) (fun i _ => xs.length - (intOf i).toNat)
    case atStart => exact ⟨0, by omega, rfl, by rw [List.take_zero, over_nil]⟩
    case round =>
      obtain ⟨k, hk, rfl, rfl⟩ := hrel
      by_cases hlt : k < xs.length
      · have hk16 : k < 16 := by omega
        have HO := Lib.hid (over_take (m := 16) xs k hlt)
        go_wp2
        go_roundw
        case rel => exact ⟨k + 1, by omega, by go_num, by rw [HO.out]⟩
        case measure => simp [intOf]; omega
      · obtain rfl : k = xs.length := by omega
        go_wp2
        exact bodyPost_ret (results_2 rfl (res_cell (cs := (mkVl xs).arr) Try.underlying62 rfl Vl.size' rfl (by simp [go_sem, over_zero, mkVl])) res_tmp) rfl ⟨rfl, (by repeat (first | exact Ext.refl _ | assumption | refine Ext.drew ?_ | refine Ext.drewN ?_ _ | refine Ext.alloc ?_ _ | refine Ext.trans ?_ (by assumption)))⟩
set_option maxRecDepth 100000 in
set_option maxHeartbeats 1000000 in
/-- the document's Of -/
theorem refkeyof_any (xs : List (BitVec 8)) (w : World) : Calls Try.prog 77 #[.string (bytesOf xs)] w (Is w (.tuple (if xs.length ≤ 8 then #[.agg (mkKey xs).arr, .int .i64 0] else #[.agg Key.zero.arr, .int .i64 2]))) := by
  have hsz := bytesOf_size xs
  by_cases h16 : 8 < xs.length
  · have h16' : (8 : Int) < xs.length := by omega
    rw [if_neg (by omega)]
    go_enter Try.func77, Try.ntmps77
    go_wp2
    exact bodyPost_ret (results_2 rfl (res_cell Try.underlying59 rfl Key.size' rfl (by simp [go_sem])) res_tmp) rfl ⟨rfl, (by repeat (first | exact Ext.refl _ | assumption | refine Ext.drew ?_ | refine Ext.drewN ?_ _ | refine Ext.alloc ?_ _ | refine Ext.trans ?_ (by assumption)))⟩
  · have h16' : ¬ (8 : Int) < xs.length := by omega
    rw [if_pos (by omega)]
    go_enter Try.func77, Try.ntmps77
    go_wp2
    go_loopw [5] (fun i wr => ∃ k : Nat, k ≤ xs.length ∧ i = .int .i64 k ∧ wr = (w.alloc (.cells Key.zero.arr 59)).alloc (.cells (Key.mk xs.length (over (Vector.replicate 8 0#8) (xs.take k))).arr 59)) (fun i _ => xs.length - (intOf i).toNat)
    case atStart => exact ⟨0, by omega, rfl, by rw [List.take_zero, over_nil]⟩
    case round =>
      obtain ⟨k, hk, rfl, rfl⟩ := hrel
      by_cases hlt : k < xs.length
      · have hk16 : k < 8 := by omega
        have HO := Lib.hid (over_take (m := 8) xs k hlt)
        go_wp2
        go_roundw
        case rel => exact ⟨k + 1, by omega, by go_num, by rw [HO.out]⟩
        case measure => simp [intOf]; omega
      · obtain rfl : k = xs.length := by omega
        go_wp2
        exact bodyPost_ret (results_2 rfl (res_cell (cs := (mkKey xs).arr) Try.underlying59 rfl Key.size' rfl (by simp [go_sem, over_zero, mkKey])) res_tmp) rfl ⟨rfl, (by repeat (first | exact Ext.refl _ | assumption | refine Ext.drew ?_ | refine Ext.drewN ?_ _ | refine Ext.alloc ?_ _ | refine Ext.trans ?_ (by assumption)))⟩

/-! ### numbers of values -/
set_option maxRecDepth 100000 in
set_option maxHeartbeats 1000000 in
/-- the document's Number -/
theorem refnumber_any (v : Vl) (w : World) : Calls Try.prog 93 #[.agg v.arr] w (Is w (.int .u64 (D64 (numOf v)))) := by
  have hs := sl_of_bArr (g := w.heap.size) (o := 1) (w := w.alloc (.cells v.arr 62)) (b := v.b) (by rw [row_alloc_at _ _ _ _ _ _ _ rfl]; exact Vl.row_b v) 8 16 (by omega) (by omega) (by unfold maxLen; omega)
  have HS := Lib.hid hs
  clear hs
  go_enter Try.func93, Try.ntmps93
  go_wp2_with fail
  refine (refnum_any _ _ 0 8 _ HS.out (by omega) (by omega) (by simp)).mono ?_
  rintro e w1 ⟨rfl, rfl⟩
  go_wp2
  go_ret
  exact ⟨by simp [numOf, seg, List.take_take], (by repeat (first | exact Ext.refl _ | assumption | refine Ext.drew ?_ | refine Ext.drewN ?_ _ | refine Ext.alloc ?_ _ | refine Ext.trans ?_ (by assumption)))⟩

set_option maxRecDepth 100000 in
set_option maxHeartbeats 1000000 in
/-- the document's From -/
theorem reffrom_any (n : BitVec 64) (w : World) : Calls Try.prog 90 #[.int .u64 (D64 n)] w (Is w (.agg (fromN n).arr)) := by
  go_enter Try.func90, Try.ntmps90
  go_wp2_with fail
  refine (refput_any _ [] _ 8 _ (Sl.nil _ _ _) (by simp) (by omega) (by omega)).mono ?_
  rintro e w1 ⟨u, rfl, hown, he1⟩
  have hl := leBytes_length n 8
  rw [List.nil_append] at hown
  have hle := he1.le
  obtain ⟨g, cap, rfl, hbg, hg1, hc1, hc2, hcc⟩ := hown.open1 be_ok (by rw [hl]; omega)
  have hbox : Box w1 (w.heap.size + 1) (Vl.mk 8 (Vector.replicate 16 0#8)).arr 62 := (by repeat (first | with_reducible assumption | with_reducible exact Box.new (by simp) | with_reducible refine Box.past ?_ _ | with_reducible refine Box.drew ?_ | with_reducible refine Box.drewN ?_ _ | refine Box.ext ?_ (by with_reducible assumption)))
  have hbox2 : Box w1 w.heap.size Vl.zero.arr 62 := (by repeat (first | with_reducible assumption | with_reducible exact Box.new (by simp) | with_reducible refine Box.past ?_ _ | with_reducible refine Box.drew ?_ | with_reducible refine Box.drewN ?_ _ | refine Box.ext ?_ (by with_reducible assumption)))
  have hgne : g ≠ w.heap.size + 1 := by simp at hbg; omega
  have HB := Lib.hid hbg
  have HC := Lib.hid hcc
  have HL := Lib.hid hl
  clear hown hbg hcc hle hl
  go_wp2
  go_loopw [5] (fun i wr => ∃ k : Nat, k ≤ 8 ∧ i = .int .i64 k ∧ Box wr (w.heap.size + 1) (Vl.mk 8 (over (Vector.replicate 16 0#8) ((leBytes n 8).take k))).arr 62 ∧ w1.grownBy wr (some (w.heap.size + 1))) (fun i _ => 8 - (intOf i).toNat)
  case atStart => exact ⟨0, by omega, rfl, by rw [List.take_zero, over_nil]; exact hbox, World.grownBy.refl _ _⟩
  case round =>
    obtain ⟨k, hk, rfl, hb, hgr⟩ := hrel
    have HBX := Lib.hid hb
    have hg2 : g < wr.heap.size := Nat.lt_of_lt_of_le hg1 hgr.size
    have hw2 : w.heap.size + 1 < wr.heap.size := hb.lt
    clear hb
    by_cases hlt : k < 8
    · have hlt' : (k : Int) < 8 := by omega
      have hkl : k < (leBytes n 8).length := by rw [HL.out]; exact hlt
      have hc := (HC.out k hkl _ rfl).1
      have hcw : wr.cell? ⟨g, k, none⟩ = some (.int .u8 (B8 (leBytes n 8)[k])) := hgr.cell hc (by simp; omega)
      have hcv : wr.cell? ⟨w.heap.size + 1, 1 + k, none⟩ = _ := HBX.out.cell (1 + k) (Vl.arr_b _ k (by omega))
      have hfr := HBX.out.frozen (1 + k)
      have HO := Lib.hid (over_take (m := 16) (leBytes n 8) k hkl)
      clear hc
      generalize hx : (leBytes n 8)[k] = x at *
      have HX := Lib.hid hx
      clear hx
      have HL2 := Lib.hid (show (leBytes n 8).length = 8 from HL.out)
      rw [HL.out] at hc1
      have hcap : (k : Int) < cap := by omega
      go_wp2
      go_roundw
      case rel =>
        have hst := HBX.out.set (1 + k) (.int .u8 (B8 x))
        rw [Vl.setb_b _ k (by omega)] at hst
        exact ⟨k + 1, by omega, by go_num, by rw [← HO.out]; exact hst, gset hgr _ _⟩
      case measure => simp [intOf]; omega
    · obtain rfl : k = 8 := by omega
      have hrow := (HBX.out.row 0 17).trans (Vl.row _)
      have hbx2 := hbox2.grown hgr (by simp)
      have hrow2 := (hbx2.row 0 17).trans (Vl.row _)
      have hfree2 := hbx2.free
      have hf : (Vl.mk 8 (over (Vector.replicate 16 0#8) ((leBytes n 8).take 8))).arr = (fromN n).arr := by
        have hl := HL.out
        unfold fromN mkVl
        rw [List.take_of_length_le (by omega), over_zero, hl]; rfl
      have hew : Ext w wr := (show Ext w w1 from (by repeat (first | exact Ext.refl _ | assumption | refine Ext.drew ?_ | refine Ext.drewN ?_ _ | refine Ext.alloc ?_ _ | refine Ext.trans ?_ (by assumption)))).grown hgr (fun k hk => by injection hk with hk; omega)
      rw [hf] at hrow
      clear hf
      go_wp2
      exact bodyPost_ret (results_1 rfl (res_cell (cs := (fromN n).arr) Try.underlying62 rfl Vl.size' rfl (by rw [(hbx2.put 0 _).row, Vl.put, Vl.row]))) rfl ⟨rfl, hew.putRow (Nat.le_refl _)⟩

set_option maxRecDepth 100000 in
set_option maxHeartbeats 1000000 in
/-- the document's Plus -/
theorem refplus_any (v : Vl) (n : BitVec 64) (w : World) : Calls Try.prog 91 #[.agg v.arr, .int .u64 (D64 n)] w (Is w (.agg (vplus v n).arr)) := by
  have hbx : Box ((w.alloc (.cells v.arr 62)).alloc (.cells Vl.zero.arr 62)) (w.heap.size + 1) Vl.zero.arr 62 := (by repeat (first | with_reducible assumption | with_reducible exact Box.new (by simp) | with_reducible refine Box.past ?_ _ | with_reducible refine Box.drew ?_ | with_reducible refine Box.drewN ?_ _ | refine Box.ext ?_ (by with_reducible assumption)))
  have H := Lib.hid hbx
  clear hbx
  go_enter Try.func91, Try.ntmps91
  go_wp2_with fail
  refine (refnumber_any _ _).mono ?_
  rintro e w1 ⟨rfl, he1⟩
  go_wp2_with fail
  refine (reffrom_any _ _).mono ?_
  rintro e w2 ⟨rfl, he2⟩
  have hb2 := H.out.ext (he1.trans he2)
  have hrow := (hb2.row 0 17).trans (Vl.row _)
  have hfree := hb2.free
  go_wp2
  exact bodyPost_ret (results_1 rfl (res_cell (cs := (vplus v n).arr) Try.underlying62 rfl Vl.size' rfl (by rw [(hb2.put 0 _).row, Vl.put]; exact Vl.row _))) rfl ⟨rfl, Ext.putRow (show Ext w w2 from (by repeat (first | exact Ext.refl _ | assumption | refine Ext.drew ?_ | refine Ext.drewN ?_ _ | refine Ext.alloc ?_ _ | refine Ext.trans ?_ (by assumption)))) (by omega)⟩
end Go.Proofs.Ytcmdhpinelnclaa

namespace Go.Proofs.Ytcmdhpinelnclaa
open Go Go.RowKit
set_option linter.unusedVariables false
set_option linter.unusedSimpArgs false
set_option maxRecDepth 100000

set_option maxRecDepth 100000 in
theorem may_any (n : Int) (w : World) : Calls Try.prog 82 #[.int .i64 n] w fun e w' => e = .returned (.bool (decide (1 ≤ n ∧ n ≤ 8))) ∧ w' = w := by
  by_cases h1 : 1 ≤ n
  · by_cases h8 : n ≤ 8
    · go_enter Try.func82, Try.ntmps82
      go_wp2
      go_ret
      exact ⟨by simp [h1, h8], rfl⟩
    · have h8' : 8 < n := by omega
      go_enter Try.func82, Try.ntmps82
      go_wp2
      go_ret
      exact ⟨by simp [h1, h8], rfl⟩
  · have h1' : n < 1 := by omega
    go_enter Try.func82, Try.ntmps82
    go_wp2
    go_ret
    exact ⟨by simp [h1]; omega, rfl⟩

set_option maxRecDepth 100000 in
set_option maxHeartbeats 2000000 in
/-- the program's Put -/
theorem put_any (v : Value) (xs : List (BitVec 8)) (n : BitVec 64) (wd : Nat) (w : World) (h : Sl be 1 w v xs) (hx : xs.length ≤ 100000000000000) (h1 : 1 ≤ wd) (h8 : wd ≤ 8) :
    Calls Try.prog 57 #[v, .int .u64 (D64 n), .int .i64 (wd : Int)] w (Ret w fun u w' => Own w.heap.size 5 be 1 w' u (xs ++ leBytes n wd)) := by
  have hmay : decide (1 ≤ (wd : Int) ∧ (wd : Int) ≤ 8) = true := decide_eq_true ⟨by omega, by omega⟩
  go_enter Try.func57, Try.ntmps57
  go_wp2_with (first
    | (at_builtin; refine wpList_append_sl (by rfl) (.const (.slice none 0 0)) (.tmp 8) (by rfl) slT_bytes be_ok (by rfl) (by rfl) (Own.nil w.heap.size 5 be 1 w) h (by simp only [List.length_nil, maxLen]; omega) (by simp only [List.length_nil]; omega) (by simp) ?_; intro v1 W1 hown1 hg1 hat1; have he1 : Ext w W1 := (Ext.refl w).append hg1 (Own.nil w.heap.size 5 be 1 w) (Nat.le_refl _); simp only [List.nil_append] at hown1; clear hg1 hat1)
    | (go_at_call 82; refine (may_any _ _).mono ?_; rintro e w1 ⟨rfl, rfl⟩))
  clear hmay
  go_loopw [1, 7, 15] (fun nn o i wr => ∃ k : Nat, k ≤ wd ∧ i = .int .i64 k ∧ nn = .int .u64 (D64 (n >>> (8 * k))) ∧ Own w.heap.size 5 be 1 wr o (xs ++ leBytes n k) ∧ Ext w wr) (fun _ _ i _ => wd - (intOf i).toNat)
  case atStart => exact ⟨0, by omega, rfl, rfl, by simpa [leBytes] using hown1, he1⟩
  case round =>
    obtain ⟨k, hk, rfl, rfl, hown, he⟩ := hrel
    have hl := leBytes_length n k
    have HL := Lib.hid hl
    clear hl
    by_cases hlt : k < wd
    · have HS := Lib.hid (leBytes_snoc n k)
      have HN := Lib.hid (show n >>> (8 * k) >>> 8 = n >>> (8 * (k + 1)) from by rw [← BitVec.shiftRight_add]; rfl)
      go_wp2_with (at_builtin; refine wpList_append_sl (by rfl) (.tmp 17) (.tmp 20) (by rfl) slT_bytes be_ok (by rfl) (by rfl) (hown.alloc _) (Sl.one be_ok wr 5 (0, 0) ((n >>> (8 * k)).setWidth 8)) (by simp only [List.length_append, HL.out, List.length_singleton, maxLen]; omega) (by simp only [List.length_append, HL.out, List.length_singleton]; omega) (by have := he.le; simp; omega) ?_; intro v2 W2 hown2 hg2 hat2; have he2 : Ext w W2 := (he.alloc _).append hg2 (hown.alloc _) (Nat.le_refl _); clear hg2 hat2)
      go_roundw
      case rel => exact ⟨k + 1, by omega, by go_num, by rw [HN.out], by rw [HS.out, ← List.append_assoc]; exact hown2, he2⟩
      case measure => simp [intOf]; omega
    · obtain rfl : k = wd := by omega
      go_wp2
      go_ret
      exact ⟨_, rfl, hown, he⟩

set_option maxRecDepth 100000 in
set_option maxHeartbeats 4000000 in
/-- the program's Num -/
theorem num_any (v : Value) (xs : List (BitVec 8)) (at_ wd : Nat) (w : World) (h : Sl be 1 w v xs) (h1 : 1 ≤ wd) (h8 : wd ≤ 8) (ha : at_ + wd ≤ xs.length) :
    Calls Try.prog 84 #[v, .int .i64 (at_ : Int), .int .i64 (wd : Int)] w fun e w' => e = .returned (.tuple #[.int .u64 (D64 (leNum (seg xs at_ wd))), .bool true]) ∧ w' = w := by
  obtain ⟨A, cap, rfl, h0, hc, hA⟩ := h
  obtain ⟨b, off, rfl, hb, hr⟩ := hA (by omega)
  unfold maxLen at hc
  have hl : (seg xs at_ wd).length = wd := by unfold seg; simp; omega
  have hmay : decide (1 ≤ (wd : Int) ∧ (wd : Int) ≤ 8) = true := decide_eq_true ⟨by omega, by omega⟩
  have i3 : ¬ (at_ : Int) < 0 := by omega
  have i4 : ¬ (xs.length : Int) - wd < at_ := by omega
  have HR := Lib.hid hr
  have HL := Lib.hid hl
  clear hr hA hl
  go_enter Try.func84, Try.ntmps84
  go_wp2_with (go_at_call 82; refine (may_any _ _).mono ?_; rintro e w1 ⟨rfl, rfl⟩)
  clear hmay
  go_loop [8, 9] (fun nn i => ∃ k : Nat, k ≤ wd ∧ i = .int .i64 ((k : Int) - 1) ∧ nn = .int .u64 (D64 (leNum ((seg xs at_ wd).drop k)))) (fun _ i => ((intOf i) + 1).toNat)
  case atStart => exact ⟨wd, by omega, rfl, by rw [List.drop_eq_nil_of_le (by rw [HL.out]; omega)]; simp only [leNum]; rw [D64_zero]⟩
  case round =>
    obtain ⟨k, hk, rfl, rfl⟩ := hrel
    by_cases hlt : 0 < k
    · obtain ⟨j, rfl⟩ : ∃ j, k = j + 1 := ⟨k - 1, by omega⟩
      have hc1 := SlAt.byte' HR.out (i := at_ + j) (by omega)
      have HS := Lib.hid (seg_step xs at_ wd j ha (by omega))
      have e1 : ((j + 1 : Nat) : Int) - 1 = (j : Int) := by omega
      rw [e1]
      have i5 : (0 : Int) ≤ (at_ : Int) + j := by omega
      have i6 : (at_ : Int) + j < xs.length := by omega
      have e2 : off + ((at_ : Int) + j).toNat = off + (at_ + j) := by omega
      have i7 : (0 : Int) ≤ (j : Int) := by omega
      clear e1
      go_wp2
      go_round
      case rel => exact ⟨j, by omega, by go_num, by rw [HS.out]⟩
      case measure => simp [intOf]
    · obtain rfl : k = 0 := by omega
      go_wp2
      exact bodyPost_ret (results_2 rfl res_tmp res_tmp) rfl ⟨rfl, rfl⟩

set_option maxRecDepth 100000 in
set_option maxHeartbeats 1000000 in
theorem vlof_any (v : Value) (xs : List (BitVec 8)) (w : World) (h : Sl be 1 w v xs) (h16 : xs.length ≤ 16) : Calls Try.prog 118 #[v] w (Is w (.agg (mkVl xs).arr)) := by
  obtain ⟨A, cap, rfl, h0, hc, hA⟩ := h
  unfold maxLen at hc
  by_cases hpos : 0 < xs.length
  · obtain ⟨b, off, rfl, hb, hr⟩ := SlAt.row be_ok hA hpos
    rw [Nat.mul_one] at hr
    have hmin : min xs.length 16 = xs.length := by omega
    have hmin2 : min 16 xs.length = xs.length := by omega
    go_enter Try.func118, Try.ntmps118
    go_wp2
    exact bodyPost_ret (results_1 rfl (res_cell (cs := (mkVl xs).arr) Try.underlying62 rfl Vl.size' rfl (by simp [go_sem, over_zero, mkVl]))) rfl ⟨rfl, (by repeat (first | exact Ext.refl _ | assumption | refine Ext.drew ?_ | refine Ext.drewN ?_ _ | refine Ext.alloc ?_ _ | refine Ext.trans ?_ (by assumption)))⟩
  · obtain rfl : xs = [] := List.eq_nil_of_length_eq_zero (by omega)
    go_enter Try.func118, Try.ntmps118
    go_wp2
    exact bodyPost_ret (results_1 rfl (res_cell (cs := (mkVl []).arr) Try.underlying62 rfl Vl.size' rfl (by rw [row_alloc_past _ _ _ _ _ (by simp), row_alloc_at _ _ _ _ _ _ _ rfl]; rw [show mkVl [] = Vl.zero from rfl]; exact Vl.row _))) rfl ⟨rfl, (by repeat (first | exact Ext.refl _ | assumption | refine Ext.drew ?_ | refine Ext.drewN ?_ _ | refine Ext.alloc ?_ _ | refine Ext.trans ?_ (by assumption)))⟩

theorem Vl.ok_false (k : Vl) : k.ok = false ↔ k.n < 0 ∨ 16 < k.n ∨ trunc k.b k.n.toNat ≠ k.b := by
  rw [← Bool.not_eq_true, Vl.ok_iff]
  constructor
  · intro h
    by_cases h1 : k.n < 0
    · exact .inl h1
    · by_cases h2 : 16 < k.n
      · exact .inr (.inl h2)
      · exact .inr (.inr fun h3 => h ⟨by omega, by omega, h3⟩)
  · rintro (h | h | h) ⟨h1, h2, h3⟩
    · omega
    · omega
    · exact h h3
theorem mkVl_take (b : Vector (BitVec 8) 16) (n : Nat) (h : n ≤ 16) : mkVl (b.toList.take n) = ⟨n, trunc b n⟩ := by
  unfold mkVl
  rw [← over_zero, over_zero_cut]
  congr 1
  simp; omega

set_option maxRecDepth 100000 in
set_option maxHeartbeats 4000000 in
theorem vlcheck_any (k : Vl) (w : World) : Calls Try.prog 116 #[.agg k.arr] w (Is w (.bool k.ok)) := by
  have hbx : Box (w.alloc (.cells k.arr 62)) w.heap.size k.arr 62 := (by repeat (first | with_reducible assumption | with_reducible exact Box.new (by simp) | with_reducible refine Box.past ?_ _ | with_reducible refine Box.drew ?_ | with_reducible refine Box.drewN ?_ _ | refine Box.ext ?_ (by with_reducible assumption)))
  have H := Lib.hid hbx
  clear hbx
  have hC : (w.alloc (.cells k.arr 62)).cell? ⟨w.heap.size, 0, none⟩ = some (.int .i64 k.n) := H.out.cell 0 (Vl.arr_n _)
  by_cases h0 : k.n < 0
  · have hok : k.ok = false := (Vl.ok_false k).2 (.inl h0)
    have hd : decide (0 ≤ k.n) = false := decide_eq_false (by omega)
    go_enter Try.func116, Try.ntmps116
    go_wp2
    go_quiet (fail)
    go_wp2
    go_ret
    exact ⟨by simp [hok], (by repeat (first | exact Ext.refl _ | assumption | refine Ext.drew ?_ | refine Ext.drewN ?_ _ | refine Ext.alloc ?_ _ | refine Ext.trans ?_ (by assumption)))⟩
  have h0' : 0 ≤ k.n := by omega
  by_cases h8 : 16 < k.n
  · have hok : k.ok = false := (Vl.ok_false k).2 (.inr (.inl h8))
    have hd : decide (k.n ≤ 16) = false := decide_eq_false (by omega)
    go_enter Try.func116, Try.ntmps116
    go_wp2
    go_quiet (fail)
    go_wp2
    go_ret
    exact ⟨by simp [hok], (by repeat (first | exact Ext.refl _ | assumption | refine Ext.drew ?_ | refine Ext.drewN ?_ _ | refine Ext.alloc ?_ _ | refine Ext.trans ?_ (by assumption)))⟩
  have h8' : k.n ≤ 16 := by omega
  clear hC
  obtain ⟨kn, kb⟩ := k
  obtain ⟨n, rfl⟩ : ∃ n : Nat, kn = (n : Int) := ⟨kn.toNat, by simp at h0'; omega⟩
  have hn8 : n ≤ 16 := by simp at h8'; omega
  have hn8' : (n : Int) ≤ 16 := by omega
  have hk : (Vl.mk (n : Int) kb).ok = decide (mkVl (kb.toList.take n) = Vl.mk n kb) := by
    rw [Bool.eq_iff_iff, Vl.ok_iff, mkVl_take _ _ hn8]; simp [hn8']
  have HK := Lib.hid hk
  clear hk
  have hA : row? (w.alloc (.cells (Vl.mk n kb).arr 62)) w.heap.size 0 17 = some (Vl.mk n kb).arr := by rw [H.out.row]; exact Vl.row _
  have hC : (w.alloc (.cells (Vl.mk n kb).arr 62)).cell? ⟨w.heap.size, 0, none⟩ = some (.int .i64 n) := H.out.cell 0 (Vl.arr_n _)
  have hB : row? (w.alloc (.cells (Vl.mk n kb).arr 62)) w.heap.size 1 16 = some (bArr kb) := by rw [H.out.row]; exact Vl.row_b _
  have HB := Lib.hid hB
  clear hB
  go_enter Try.func116, Try.ntmps116
  go_wp2
  go_region_held3 (fun W => row? W w.heap.size 0 17 = some (Vl.mk n kb).arr ∧ W.cell? ⟨w.heap.size, 0, none⟩ = some (.int .i64 n))
    (exact ⟨Ext.row (by repeat (first | exact Ext.refl _ | assumption | refine Ext.drew ?_ | refine Ext.drewN ?_ _ | refine Ext.alloc ?_ _ | refine Ext.trans ?_ (by assumption))) hA, Ext.cell (by repeat (first | exact Ext.refl _ | assumption | refine Ext.drew ?_ | refine Ext.drewN ?_ _ | refine Ext.alloc ?_ _ | refine Ext.trans ?_ (by assumption))) hC⟩)
    ((go_at_call 118; refine (vlof_any _ _ _ (sl_of_bArr (Ext.row (by repeat (first | exact Ext.refl _ | assumption | refine Ext.drew ?_ | refine Ext.drewN ?_ _ | refine Ext.alloc ?_ _ | refine Ext.trans ?_ (by assumption))) HB.out) n 16 hn8 hn8 (by unfold maxLen; omega)) (by simp; omega)).mono ?_; rintro e w1 ⟨rfl, he1⟩))
  go_wp2
  go_ret
  exact ⟨by rw [HK.out]; rfl, (by repeat (first | exact Ext.refl _ | assumption | refine Ext.drew ?_ | refine Ext.drewN ?_ _ | refine Ext.alloc ?_ _ | refine Ext.trans ?_ (by assumption)))⟩

set_option maxHeartbeats 1000000 in
/-- the document's Check -/
theorem refvlcheck_any (k : Vl) (w : World) : Calls Try.prog 87 #[.agg k.arr] w (Is w (.bool k.ok)) := by
  by_cases h0 : k.n < 0
  · have hok : k.ok = false := (Vl.ok_false k).2 (.inl h0)
    go_enter Try.func87, Try.ntmps87
    go_wp2
    go_ret
    exact ⟨by simp [hok], (by repeat (first | exact Ext.refl _ | assumption | refine Ext.drew ?_ | refine Ext.drewN ?_ _ | refine Ext.alloc ?_ _ | refine Ext.trans ?_ (by assumption)))⟩
  have h0' : 0 ≤ k.n := by omega
  by_cases h8 : 16 < k.n
  · have hok : k.ok = false := (Vl.ok_false k).2 (.inr (.inl h8))
    go_enter Try.func87, Try.ntmps87
    go_wp2
    go_ret
    exact ⟨by simp [hok], (by repeat (first | exact Ext.refl _ | assumption | refine Ext.drew ?_ | refine Ext.drewN ?_ _ | refine Ext.alloc ?_ _ | refine Ext.trans ?_ (by assumption)))⟩
  have h8' : k.n ≤ 16 := by omega
  obtain ⟨n, hn⟩ : ∃ n : Nat, k.n = (n : Int) := ⟨k.n.toNat, by omega⟩
  have H0 := Lib.hid hn
  have hn8 : n ≤ 16 := by omega
  clear hn
  go_enter Try.func87, Try.ntmps87
  go_wp2
  go_loop [3] (fun x => ∃ i : Nat, n ≤ i ∧ i ≤ 16 ∧ x = .int .i64 i ∧ ∀ j (h : j < 16), n ≤ j → j < i → k.b[j] = 0#8) (fun x => 16 - (intOf x).toNat)
  case atStart => exact ⟨n, by omega, by omega, by rw [H0.out], fun j _ h1 h2 => absurd h1 (by omega)⟩
  case round =>
    obtain ⟨i, h1, h2, rfl, hz⟩ := hrel
    have HZ := Lib.hid hz
    clear hz
    have H0' := H0.out
    have hni : k.n ≤ i := by omega
    clear H0'
    by_cases hlt : i < 16
    · by_cases hb : k.b[i] = 0#8
      · go_wp2
        go_round
        case rel =>
          refine ⟨i + 1, by omega, by omega, by go_num, fun j hj h3 h4 => ?_⟩
          by_cases h5 : j = i
          · subst h5; exact hb
          · exact HZ.out j hj h3 (by omega)
        case measure => simp [intOf]; omega
      · have hok : k.ok = false := (Vl.ok_false k).2 (.inr (.inr fun h => hb ((trunc_iff _ _).1 h i hlt (by omega))))
        go_wp2
        go_ret
        exact ⟨by simp [hok], (by repeat (first | exact Ext.refl _ | assumption | refine Ext.drew ?_ | refine Ext.drewN ?_ _ | refine Ext.alloc ?_ _ | refine Ext.trans ?_ (by assumption)))⟩
    · obtain rfl : i = 16 := by omega
      have hok : k.ok = true := (Vl.ok_iff k).2 ⟨h0', h8', (trunc_iff _ _).2 fun j hj h3 => HZ.out j hj (by rw [H0.out] at h3; omega) hj⟩
      go_wp2
      go_ret
      exact ⟨by simp [hok], (by repeat (first | exact Ext.refl _ | assumption | refine Ext.drew ?_ | refine Ext.drewN ?_ _ | refine Ext.alloc ?_ _ | refine Ext.trans ?_ (by assumption)))⟩

end Go.Proofs.Ytcmdhpinelnclaa

namespace Go.Proofs.Ytcmdhpinelnclaa
open Go Go.RowKit
set_option linter.unusedVariables false
set_option linter.unusedSimpArgs false
set_option maxRecDepth 100000

set_option maxRecDepth 100000 in
set_option maxHeartbeats 1000000 in
theorem lplace_any (v n : Int) (w : World) (h0 : 0 < n) (h1 : n ≤ 9223372036854775807) (hv : -9223372036854775808 ≤ v ∧ v ≤ 9223372036854775807) :
    Calls Try.prog 19 #[.int .i64 v, .int .i64 n] w fun e w' => e = .returned (.int .i64 (v % n)) ∧ w' = w := by
  have hn : n ≠ 0 := by omega
  have hn1 : ¬ n = -1 := by omega
  have hb := Int.natAbs_tmod v n
  have hlt : (v.tmod n).natAbs < n.natAbs := by rw [hb]; exact Nat.mod_lt _ (by omega)
  have hem : v % n = if v.tmod n < 0 then v.tmod n + n else v.tmod n := by
    have e1 := Int.emod_def v n
    have e2 := Int.tmod_def v n
    have e3 := Int.emod_nonneg v hn
    have e4 := Int.emod_lt_of_pos v h0
    have e5 : v % n = v.tmod n ∨ v % n = v.tmod n + n := by
      rw [Int.emod_eq_tmod]; split
      · exact .inl (by omega)
      · right; omega
    split <;> omega
  have HE := Lib.hid hem
  clear hem hb
  by_cases hneg : v.tmod n < 0
  · have i1 : IntKind.i64.wrap (v.tmod n + n) = v.tmod n + n := IntWalk.i64_in _ (by omega)
    have i2 : IntKind.i64.wrap (v.tmod n) = v.tmod n := IntWalk.i64_in _ (by omega)
    have HN := Lib.hid hneg
    go_enter Try.func19, Try.ntmps19
    go_wp2
    go_ret
    exact ⟨by rw [HE.out, if_pos HN.out]; rfl, rfl⟩
  · have i2 : IntKind.i64.wrap (v.tmod n) = v.tmod n := IntWalk.i64_in _ (by omega)
    have HE2 := Lib.hid (HE.out.trans (if_neg hneg))
    clear HE
    go_enter Try.func19, Try.ntmps19
    go_wp2
    go_ret
    exact ⟨by rw [HE2.out]; rfl, rfl⟩

/-! ### keys by numbers -/
/-- cells that are bytes -/
@[irreducible] def u8L : List Value → Bool
  | [] => true
  | .int .u8 _ :: l => u8L l
  | _ :: _ => false
theorem u8L_nil : u8L [] = true := by unfold u8L; rfl
theorem u8L_cons (x : Int) (l : List Value) : u8L (.int .u8 x :: l) = u8L l := by rw [u8L]
/-- a cell's byte -/
def cellBy : Value → BitVec 8
  | .int _ x => BitVec.ofNat 8 x.toNat
  | _ => 0#8
@[irreducible] def byL (l : List Value) : List (BitVec 8) := l.map cellBy
theorem byL_def (l : List Value) : byL l = l.map cellBy := by unfold byL; rfl
theorem u8L_ints : ∀ (l : List Value), u8L l = true → ∃ ns : List Int, l = ns.map (Value.int .u8)
  | [], _ => ⟨[], rfl⟩
  | v :: l, h => by
    cases v with
    | int k x =>
      cases k <;> first | (rw [u8L_cons] at h; obtain ⟨ns, rfl⟩ := u8L_ints l h; exact ⟨x :: ns, rfl⟩) | (unfold u8L at h; cases h)
    | _ => unfold u8L at h; cases h
attribute [go_sem] u8L_nil u8L_cons
/-- the numbers are bytes' -/
theorem cv_alloc (b n c : Nat) (w : World) (l : List Value) (hb : b = w.heap.size) (hn : n = l.length) (hu : u8L l = true) :
    (convert 33 9 (.slice (some ⟨b, 0, none⟩) n c)).run Try.prog (w.alloc (.cells l.toArray 5)) = .ok (.string (bytesOf (byL l))) (w.alloc (.cells l.toArray 5)) := by
  obtain ⟨ns, rfl⟩ := u8L_ints l hu
  subst hb
  subst hn
  rw [run_convert_bytes_string _ 33 9 5 _ _ _ Try.underlying33 Try.underlying5 Try.underlying9]
  have hr : row? (w.alloc (.cells (ns.map (Value.int .u8)).toArray 5)) w.heap.size 0 (ns.map (Value.int .u8)).length = some (ns.map (Value.int .u8)).toArray := by
    rw [row_alloc_at _ _ _ _ _ _ _ rfl]; exact rowOf_full _ _ (by simp)
  have hl := run_loadCells_row (P := Try.prog) hr
  rw [run_bytesToString _ ⟨w.heap.size, 0, none⟩ _ c ns hl]
  have hf : ∀ (l : List Int) (s : ByteArray), (l.foldl (fun r n => r.push (UInt8.ofNat n.toNat)) s) = ⟨s.data ++ (l.map fun n => UInt8.ofNat n.toNat).toArray⟩ := by
    intro l
    induction l with
    | nil => intro s; simp
    | cons x l ih =>
      intro s
      rw [List.foldl_cons, ih]
      congr 1
      simp [ByteArray.push]
  rw [hf, bytesOf_def, byL_def]
  congr 2
  simp [ByteArray.empty, ByteArray.emptyWithCapacity, Function.comp_def, cellBy]
  rfl
attribute [go_sem] cv_alloc

theorem bytes_extract (l : List (BitVec 8)) (n : Nat) : (bytesOf l).extract 0 n = bytesOf (l.take n) := by
  rw [bytesOf_def, bytesOf_def]
  apply ByteArray.ext
  rw [ByteArray.data_extract]
  simp [List.map_take]
attribute [go_sem] bytes_extract
theorem byL_length (l : List Value) : (byL l).length = l.length := by rw [byL_def]; simp

def bN (n : Nat) : BitVec 8 := BitVec.ofNat 8 n
def keyText (k : Nat) : List (BitVec 8) :=
  match k % 8 with
  | 0 | 1 | 2 => [bN (97 + k / 8 % 6)]
  | 3 | 4 => [bN (97 + k / 8 % 5), bN (97 + k / 40 % 4)]
  | 5 => [bN (97 + k / 8 % 4), 0, bN (k / 32 % 256), bN (k / 8192 % 4), 255, 120, 121, bN (97 + k / 32768 % 3)]
  | 6 => [bN (98 + k / 8 % 3), 108, 111, 110, 103, 101, 114, bN (48 + k / 24 % 9)]
  | _ => [bN (k / 8 % 256), bN (k / 2048 % 256)].take (k / 524288 % 3)
def lawKey (v : Int) : Key := mkKey (keyText (v % 1099511627776).toNat)

theorem keyText_length (k : Nat) : (keyText k).length ≤ 8 := by
  unfold keyText
  split <;> simp
  omega
theorem lawKey_ok (v : Int) : (lawKey v).ok = true := mkKey_ok _ (keyText_length _)
theorem by_n (n : Nat) (x : Int) (h : x = (n : Int)) : BitVec.ofNat 8 x.toNat = bN n := by subst h; rfl

set_option maxRecDepth 100000 in
set_option maxHeartbeats 8000000 in
theorem lkey_any (v : Int) (w : World) (hv : -9223372036854775808 ≤ v ∧ v ≤ 9223372036854775807) : Calls Try.prog 50 #[.int .i64 v] w (Is w (.agg (lawKey v).arr)) := by
  obtain ⟨k, hk⟩ : ∃ k : Nat, v % 1099511627776 = (k : Int) := ⟨(v % 1099511627776).toNat, by omega⟩
  have hlt : k < 1099511627776 := by omega
  have hbx : Box (w.alloc (.cells Key.zero.arr 59)) w.heap.size Key.zero.arr 59 := (by repeat (first | with_reducible assumption | with_reducible exact Box.new (by simp) | with_reducible refine Box.past ?_ _ | with_reducible refine Box.drew ?_ | with_reducible refine Box.drewN ?_ _ | refine Box.ext ?_ (by with_reducible assumption)))
  have HB := Lib.hid hbx
  have HK := Lib.hid hk
  have hlk : lawKey v = mkKey (keyText k) := by unfold lawKey; rw [hk]; rfl
  have HL := Lib.hid hlk
  have hlen := keyText_length k
  have HN := Lib.hid hlen
  have hk0 : (0 : Int) ≤ (k : Int) := by omega
  clear hbx hk hlk hlen
  by_cases h0 : (k : Int) % 8 = 0
  · have hby : byL [.int .u8 (97 + (k : Int) / 8 % 6)] = keyText k := by
      rw [byL_def]
      unfold keyText
      rw [show k % 8 = 0 from by omega]
      simp only [List.map_cons, List.map_nil, cellBy]
      repeat (first | rfl | (refine congr (congrArg List.cons (by_n _ _ (by omega))) ?_) | (refine congr (congrArg List.cons rfl) ?_))
    have HY := Lib.hid hby
    clear hby
    go_enter Try.func50, Try.ntmps50
    go_wp2_with fail
    refine (lplace_any _ _ _ (by omega) (by omega) hv).mono ?_
    rintro e w1 ⟨rfl, rfl⟩
    rw [HK.out]
    go_wp2_with fail
    rw [HY.out]
    refine (refkeyof_any _ _).mono ?_
    rintro e w2 ⟨rfl, he2⟩
    rw [if_pos HN.out]
    have hb2 : Box w2 w.heap.size Key.zero.arr 59 := HB.out.ext (((Ext.refl _).alloc _).trans he2)
    have hrow := (hb2.row 0 9).trans (Key.row _)
    have hfree := hb2.free
    have hlt2 := hb2.lt
    go_wp2
    exact bodyPost_ret (results_1 rfl (res_cell (cs := (lawKey v).arr) Try.underlying59 rfl Key.size' rfl (by rw [row_alloc_past _ _ _ _ _ (by rw [putRow_size]; exact hlt2), (hb2.put 0 _).row, Key.put, HL.out]; exact Key.row _))) rfl ⟨rfl, Ext.alloc (Ext.putRow (Ext.trans (((Ext.refl w).alloc _).alloc _) he2) (Nat.le_refl _)) _⟩
  by_cases h1 : (k : Int) % 8 = 1
  · have hby : byL [.int .u8 (97 + (k : Int) / 8 % 6)] = keyText k := by
      rw [byL_def]
      unfold keyText
      rw [show k % 8 = 1 from by omega]
      simp only [List.map_cons, List.map_nil, cellBy]
      repeat (first | rfl | (refine congr (congrArg List.cons (by_n _ _ (by omega))) ?_) | (refine congr (congrArg List.cons rfl) ?_))
    have HY := Lib.hid hby
    clear hby
    go_enter Try.func50, Try.ntmps50
    go_wp2_with fail
    refine (lplace_any _ _ _ (by omega) (by omega) hv).mono ?_
    rintro e w1 ⟨rfl, rfl⟩
    rw [HK.out]
    go_wp2_with fail
    rw [HY.out]
    refine (refkeyof_any _ _).mono ?_
    rintro e w2 ⟨rfl, he2⟩
    rw [if_pos HN.out]
    have hb2 : Box w2 w.heap.size Key.zero.arr 59 := HB.out.ext (((Ext.refl _).alloc _).trans he2)
    have hrow := (hb2.row 0 9).trans (Key.row _)
    have hfree := hb2.free
    have hlt2 := hb2.lt
    go_wp2
    exact bodyPost_ret (results_1 rfl (res_cell (cs := (lawKey v).arr) Try.underlying59 rfl Key.size' rfl (by rw [row_alloc_past _ _ _ _ _ (by rw [putRow_size]; exact hlt2), (hb2.put 0 _).row, Key.put, HL.out]; exact Key.row _))) rfl ⟨rfl, Ext.alloc (Ext.putRow (Ext.trans (((Ext.refl w).alloc _).alloc _) he2) (Nat.le_refl _)) _⟩
  by_cases h2 : (k : Int) % 8 = 2
  · have hby : byL [.int .u8 (97 + (k : Int) / 8 % 6)] = keyText k := by
      rw [byL_def]
      unfold keyText
      rw [show k % 8 = 2 from by omega]
      simp only [List.map_cons, List.map_nil, cellBy]
      repeat (first | rfl | (refine congr (congrArg List.cons (by_n _ _ (by omega))) ?_) | (refine congr (congrArg List.cons rfl) ?_))
    have HY := Lib.hid hby
    clear hby
    go_enter Try.func50, Try.ntmps50
    go_wp2_with fail
    refine (lplace_any _ _ _ (by omega) (by omega) hv).mono ?_
    rintro e w1 ⟨rfl, rfl⟩
    rw [HK.out]
    go_wp2_with fail
    rw [HY.out]
    refine (refkeyof_any _ _).mono ?_
    rintro e w2 ⟨rfl, he2⟩
    rw [if_pos HN.out]
    have hb2 : Box w2 w.heap.size Key.zero.arr 59 := HB.out.ext (((Ext.refl _).alloc _).trans he2)
    have hrow := (hb2.row 0 9).trans (Key.row _)
    have hfree := hb2.free
    have hlt2 := hb2.lt
    go_wp2
    exact bodyPost_ret (results_1 rfl (res_cell (cs := (lawKey v).arr) Try.underlying59 rfl Key.size' rfl (by rw [row_alloc_past _ _ _ _ _ (by rw [putRow_size]; exact hlt2), (hb2.put 0 _).row, Key.put, HL.out]; exact Key.row _))) rfl ⟨rfl, Ext.alloc (Ext.putRow (Ext.trans (((Ext.refl w).alloc _).alloc _) he2) (Nat.le_refl _)) _⟩
  by_cases h3 : (k : Int) % 8 = 3
  · have hby : byL [.int .u8 (97 + (k : Int) / 8 % 5), .int .u8 (97 + (k : Int) / 40 % 4)] = keyText k := by
      rw [byL_def]
      unfold keyText
      rw [show k % 8 = 3 from by omega]
      simp only [List.map_cons, List.map_nil, cellBy]
      repeat (first | rfl | (refine congr (congrArg List.cons (by_n _ _ (by omega))) ?_) | (refine congr (congrArg List.cons rfl) ?_))
    have HY := Lib.hid hby
    clear hby
    go_enter Try.func50, Try.ntmps50
    go_wp2_with fail
    refine (lplace_any _ _ _ (by omega) (by omega) hv).mono ?_
    rintro e w1 ⟨rfl, rfl⟩
    rw [HK.out]
    go_wp2_with fail
    rw [HY.out]
    refine (refkeyof_any _ _).mono ?_
    rintro e w2 ⟨rfl, he2⟩
    rw [if_pos HN.out]
    have hb2 : Box w2 w.heap.size Key.zero.arr 59 := HB.out.ext (((Ext.refl _).alloc _).trans he2)
    have hrow := (hb2.row 0 9).trans (Key.row _)
    have hfree := hb2.free
    have hlt2 := hb2.lt
    go_wp2
    exact bodyPost_ret (results_1 rfl (res_cell (cs := (lawKey v).arr) Try.underlying59 rfl Key.size' rfl (by rw [row_alloc_past _ _ _ _ _ (by rw [putRow_size]; exact hlt2), (hb2.put 0 _).row, Key.put, HL.out]; exact Key.row _))) rfl ⟨rfl, Ext.alloc (Ext.putRow (Ext.trans (((Ext.refl w).alloc _).alloc _) he2) (Nat.le_refl _)) _⟩
  by_cases h4 : (k : Int) % 8 = 4
  · have hby : byL [.int .u8 (97 + (k : Int) / 8 % 5), .int .u8 (97 + (k : Int) / 40 % 4)] = keyText k := by
      rw [byL_def]
      unfold keyText
      rw [show k % 8 = 4 from by omega]
      simp only [List.map_cons, List.map_nil, cellBy]
      repeat (first | rfl | (refine congr (congrArg List.cons (by_n _ _ (by omega))) ?_) | (refine congr (congrArg List.cons rfl) ?_))
    have HY := Lib.hid hby
    clear hby
    go_enter Try.func50, Try.ntmps50
    go_wp2_with fail
    refine (lplace_any _ _ _ (by omega) (by omega) hv).mono ?_
    rintro e w1 ⟨rfl, rfl⟩
    rw [HK.out]
    go_wp2_with fail
    rw [HY.out]
    refine (refkeyof_any _ _).mono ?_
    rintro e w2 ⟨rfl, he2⟩
    rw [if_pos HN.out]
    have hb2 : Box w2 w.heap.size Key.zero.arr 59 := HB.out.ext (((Ext.refl _).alloc _).trans he2)
    have hrow := (hb2.row 0 9).trans (Key.row _)
    have hfree := hb2.free
    have hlt2 := hb2.lt
    go_wp2
    exact bodyPost_ret (results_1 rfl (res_cell (cs := (lawKey v).arr) Try.underlying59 rfl Key.size' rfl (by rw [row_alloc_past _ _ _ _ _ (by rw [putRow_size]; exact hlt2), (hb2.put 0 _).row, Key.put, HL.out]; exact Key.row _))) rfl ⟨rfl, Ext.alloc (Ext.putRow (Ext.trans (((Ext.refl w).alloc _).alloc _) he2) (Nat.le_refl _)) _⟩
  by_cases h5 : (k : Int) % 8 = 5
  · have hby : byL [.int .u8 (97 + (k : Int) / 8 % 4), .int .u8 (0), .int .u8 ((k : Int) / 32 % 256), .int .u8 ((k : Int) / 8192 % 4), .int .u8 (255), .int .u8 (120), .int .u8 (121), .int .u8 (97 + (k : Int) / 32768 % 3)] = keyText k := by
      rw [byL_def]
      unfold keyText
      rw [show k % 8 = 5 from by omega]
      simp only [List.map_cons, List.map_nil, cellBy]
      repeat (first | rfl | (refine congr (congrArg List.cons (by_n _ _ (by omega))) ?_) | (refine congr (congrArg List.cons rfl) ?_))
    have HY := Lib.hid hby
    clear hby
    go_enter Try.func50, Try.ntmps50
    go_wp2_with fail
    refine (lplace_any _ _ _ (by omega) (by omega) hv).mono ?_
    rintro e w1 ⟨rfl, rfl⟩
    rw [HK.out]
    go_wp2_with fail
    rw [HY.out]
    refine (refkeyof_any _ _).mono ?_
    rintro e w2 ⟨rfl, he2⟩
    rw [if_pos HN.out]
    have hb2 : Box w2 w.heap.size Key.zero.arr 59 := HB.out.ext (((Ext.refl _).alloc _).trans he2)
    have hrow := (hb2.row 0 9).trans (Key.row _)
    have hfree := hb2.free
    have hlt2 := hb2.lt
    go_wp2
    exact bodyPost_ret (results_1 rfl (res_cell (cs := (lawKey v).arr) Try.underlying59 rfl Key.size' rfl (by rw [row_alloc_past _ _ _ _ _ (by rw [putRow_size]; exact hlt2), (hb2.put 0 _).row, Key.put, HL.out]; exact Key.row _))) rfl ⟨rfl, Ext.alloc (Ext.putRow (Ext.trans (((Ext.refl w).alloc _).alloc _) he2) (Nat.le_refl _)) _⟩
  by_cases h6 : (k : Int) % 8 = 6
  · have hby : byL [.int .u8 (98 + (k : Int) / 8 % 3), .int .u8 (108), .int .u8 (111), .int .u8 (110), .int .u8 (103), .int .u8 (101), .int .u8 (114), .int .u8 (48 + (k : Int) / 24 % 9)] = keyText k := by
      rw [byL_def]
      unfold keyText
      rw [show k % 8 = 6 from by omega]
      simp only [List.map_cons, List.map_nil, cellBy]
      repeat (first | rfl | (refine congr (congrArg List.cons (by_n _ _ (by omega))) ?_) | (refine congr (congrArg List.cons rfl) ?_))
    have HY := Lib.hid hby
    clear hby
    go_enter Try.func50, Try.ntmps50
    go_wp2_with fail
    refine (lplace_any _ _ _ (by omega) (by omega) hv).mono ?_
    rintro e w1 ⟨rfl, rfl⟩
    rw [HK.out]
    go_wp2_with fail
    rw [HY.out]
    refine (refkeyof_any _ _).mono ?_
    rintro e w2 ⟨rfl, he2⟩
    rw [if_pos HN.out]
    have hb2 : Box w2 w.heap.size Key.zero.arr 59 := HB.out.ext (((Ext.refl _).alloc _).trans he2)
    have hrow := (hb2.row 0 9).trans (Key.row _)
    have hfree := hb2.free
    have hlt2 := hb2.lt
    go_wp2
    exact bodyPost_ret (results_1 rfl (res_cell (cs := (lawKey v).arr) Try.underlying59 rfl Key.size' rfl (by rw [row_alloc_past _ _ _ _ _ (by rw [putRow_size]; exact hlt2), (hb2.put 0 _).row, Key.put, HL.out]; exact Key.row _))) rfl ⟨rfl, Ext.alloc (Ext.putRow (Ext.trans (((Ext.refl w).alloc _).alloc _) he2) (Nat.le_refl _)) _⟩
  have h7 : (k : Int) % 8 = 7 := by omega
  have hb0 : (0 : Int) ≤ (k : Int) / 524288 % 3 := by omega
  have hb3 : (k : Int) / 524288 % 3 ≤ 2 := by omega
  have hsz : (bytesOf (byL [.int .u8 ((k : Int) / 8 % 256), .int .u8 ((k : Int) / 2048 % 256)])).size = 2 := by rw [bytesOf_size, byL_length]; rfl
  have hby : (byL [.int .u8 ((k : Int) / 8 % 256), .int .u8 ((k : Int) / 2048 % 256)]).take (k / 524288 % 3) = keyText k := by
    rw [byL_def]
    unfold keyText
    rw [show k % 8 = 7 from by omega]
    simp only [List.map_cons, List.map_nil, cellBy]
    rw [by_n (k / 8 % 256) _ (by omega), by_n (k / 2048 % 256) _ (by omega)]
  have HY := Lib.hid hby
  clear hby
  go_enter Try.func50, Try.ntmps50
  go_wp2_with fail
  refine (lplace_any _ _ _ (by omega) (by omega) hv).mono ?_
  rintro e w1 ⟨rfl, rfl⟩
  rw [HK.out]
  go_wp2_with fail
  rw [HY.out]
  refine (refkeyof_any _ _).mono ?_
  rintro e w2 ⟨rfl, he2⟩
  rw [if_pos HN.out]
  have hb2 : Box w2 w.heap.size Key.zero.arr 59 := HB.out.ext (((Ext.refl _).alloc _).trans he2)
  have hrow := (hb2.row 0 9).trans (Key.row _)
  have hfree := hb2.free
  have hlt2 := hb2.lt
  go_wp2
  exact bodyPost_ret (results_1 rfl (res_cell (cs := (lawKey v).arr) Try.underlying59 rfl Key.size' rfl (by rw [row_alloc_past _ _ _ _ _ (by rw [putRow_size]; exact hlt2), (hb2.put 0 _).row, Key.put, HL.out]; exact Key.row _))) rfl ⟨rfl, Ext.alloc (Ext.putRow (Ext.trans (((Ext.refl w).alloc _).alloc _) he2) (Nat.le_refl _)) _⟩
end Go.Proofs.Ytcmdhpinelnclaa

namespace Go.Proofs.Ytcmdhpinelnclaa
open Go Go.RowKit
set_option linter.unusedVariables false
set_option linter.unusedSimpArgs false
set_option maxRecDepth 100000

def keysA (l : List Key) : AV := .sl none 9 (l.map Key.av)
def intsA (l : List Int) : AV := .sl none 1 (l.map intA)
def bytesA (l : List (BitVec 8)) : AV := .sl none 1 (l.map byteA)
def msgsA (l : List Msg) : AV := .sl none 29 (l.map Msg.av)
def entsA (l : List Ent) : AV := .sl none 26 (l.map Ent.av)
theorem a_keycheck (a : Key) : AFn Try.prog 115 [a.av] (boolA a.ok) := fun U w vs h => by
  obtain ⟨v1, us, rfl, h1, h⟩ := rdp_one h
  obtain rfl := rdp_nil h
  rw [dKey.rdv.1 h1]
  exact ofIs (keycheck_any a w) fun w' => is_v (w := w) rfl
theorem a_keycmp (a b : Key) : AFn Try.prog 117 [a.av, b.av] (intA (keyCmp a b)) := fun U w vs h => by
  obtain ⟨v1, us, rfl, h1, h⟩ := rdp_one h
  obtain ⟨v2, us, rfl, h2, h⟩ := rdp_one h
  obtain rfl := rdp_nil h
  rw [dKey.rdv.1 h1, dKey.rdv.1 h2]
  exact ofIs (keycmp_any a b w) fun w' => is_v (w := w) rfl
theorem a_refkeycheck (a : Key) : AFn Try.prog 79 [a.av] (boolA a.ok) := fun U w vs h => by
  obtain ⟨v1, us, rfl, h1, h⟩ := rdp_one h
  obtain rfl := rdp_nil h
  rw [dKey.rdv.1 h1]
  exact ofIs (refkeycheck_any a w) fun w' => is_v (w := w) rfl
theorem a_refcmp (a b : Key) : AFn Try.prog 76 [a.av, b.av] (intA (refCmp a b)) := fun U w vs h => by
  obtain ⟨v1, us, rfl, h1, h⟩ := rdp_one h
  obtain ⟨v2, us, rfl, h2, h⟩ := rdp_one h
  obtain rfl := rdp_nil h
  rw [dKey.rdv.1 h1, dKey.rdv.1 h2]
  exact ofIs (refkeycmp_any a b w) fun w' => is_v (w := w) rfl
theorem a_vlcheck (a : Vl) : AFn Try.prog 116 [a.av] (boolA a.ok) := fun U w vs h => by
  obtain ⟨v1, us, rfl, h1, h⟩ := rdp_one h
  obtain rfl := rdp_nil h
  rw [dVl.rdv.1 h1]
  exact ofIs (vlcheck_any a w) fun w' => is_v (w := w) rfl
theorem a_refvlcheck (a : Vl) : AFn Try.prog 87 [a.av] (boolA a.ok) := fun U w vs h => by
  obtain ⟨v1, us, rfl, h1, h⟩ := rdp_one h
  obtain rfl := rdp_nil h
  rw [dVl.rdv.1 h1]
  exact ofIs (refvlcheck_any a w) fun w' => is_v (w := w) rfl
theorem u64_arg {U : Uns} {w : World} {B : Blk} {H : Hp} {n : BitVec 64} {v : Value} (h : Rdv U w B H (u64A n) v) : v = .int .u64 (D64 n) := (Rdv_v.1 h).2
theorem int_arg {U : Uns} {w : World} {B : Blk} {H : Hp} {n : Int} {v : Value} (h : Rdv U w B H (intA n) v) : v = .int .i64 n := (Rdv_v.1 h).2
theorem a_refplus (a : Vl) (n : BitVec 64) : AFn Try.prog 91 [a.av, u64A n] (vplus a n).av := fun U w vs h => by
  obtain ⟨v1, us, rfl, h1, h⟩ := rdp_one h
  obtain ⟨v2, us, rfl, h2, h⟩ := rdp_one h
  obtain rfl := rdp_nil h
  rw [dVl.rdv.1 h1, u64_arg h2]
  exact ofIs (refplus_any a n w) fun w' => dVl.rdv.2 rfl
theorem a_lkey (v : Int) (hv : -9223372036854775808 ≤ v ∧ v ≤ 9223372036854775807) : AFn Try.prog 50 [intA v] (lawKey v).av := fun U w vs h => by
  obtain ⟨v1, us, rfl, h1, h⟩ := rdp_one h
  obtain rfl := rdp_nil h
  rw [int_arg h1]
  exact ofIs (lkey_any v w hv) fun w' => dKey.rdv.2 rfl
end Go.Proofs.Ytcmdhpinelnclaa

namespace Go.Proofs.Ytcmdhpinelnclaa
open Go Go.RowKit
set_option linter.unusedVariables false
set_option linter.unusedSimpArgs false
set_option maxRecDepth 100000

section
variable {E : Env} {nt : Nat} {ops : Array Oper} {T : Nat → Option AV} {H : Hp} {d : Option Nat} {ty : TypeId} {pos : String} {af : Array Edge} {gd : Option (Nat × Bool)}
theorem wrap_u8' (n : Int) : IntKind.u8.wrap n = n % 256 := by simp [IntKind.wrap, IntKind.bits, IntKind.signed]
/-- an int as a byte -/
theorem o_convb {s t : TypeId} {x : Operand} {n : Int} (hs : ∃ u, Try.prog.underlying s = some u) (ht : Try.prog.underlying t = some (.int .u8)) (hd : dOk nt d = true) (hx : evalO T x = some (.v (.int .i64 n))) : OpOK Try.prog E nt ops ⟨d, .convert s t x, ty, pos, af, gd⟩ T H [] ⟨byteA (BitVec.ofInt 8 n), []⟩ :=
  ok_conv_i hs ht hd hx (by rw [B8_def, BitVec.toNat_ofInt, wrap_u8']; omega)
theorem o_convu {s t : TypeId} {x : Operand} {n : Int} (hs : ∃ u, Try.prog.underlying s = some u) (ht : Try.prog.underlying t = some (.int .u64)) (hd : dOk nt d = true) (hx : evalO T x = some (.v (.int .i64 n))) : OpOK Try.prog E nt ops ⟨d, .convert s t x, ty, pos, af, gd⟩ T H [] ⟨u64A (BitVec.ofInt 64 n), []⟩ :=
  ok_conv_i hs ht hd hx (by rw [D64_def, BitVec.toNat_ofInt, wrap_u64']; omega)
theorem D64_mul (x y : BitVec 64) : IntKind.u64.wrap (D64 x * D64 y) = D64 (x * y) := by
  rw [wrap_u64', D64_def, D64_def, D64_def, BitVec.toNat_mul, ← Int.natCast_mul]
  omega
theorem o_mulu {t t' : TypeId} {x y : Operand} {a : BitVec 64} {c : Int} (hd : dOk nt d = true) (hx : evalO T x = some (.v (.int .u64 (D64 a)))) (hy : evalO T y = some (.v (.int .u64 c))) (h0 : 0 ≤ c ∧ c < 18446744073709551616) : OpOK Try.prog E nt ops ⟨d, .binOp .mul t x y t', ty, pos, af, gd⟩ T H [] ⟨u64A (a * BitVec.ofInt 64 c), []⟩ := by
  have := D64_ofInt c h0.1 h0.2
  rw [← this] at hy
  exact ok_mul hd hx hy (D64_mul a _)
/-- a row of bytes as a string -/
theorem bytes_row {U : Uns} {w : World} {B : Blk} {H : Hp} : ∀ {l : List (BitVec 8)} {c : List Value}, Rdu U w 1 (l.map byteA) B H c → c = (l.map fun b => Int.ofNat b.toNat).map (Value.int .u8)
  | [], c, h => by simpa [Rdu] using h
  | b :: l, c, h => by
    simp only [List.map_cons, Rdu] at h
    obtain ⟨c1, c2, rfl, h1, h2, h3⟩ := h
    rw [bytes_row h3]
    simp only [byteA, Rd] at h2
    rw [h2.2, B8_def]
    simp
theorem foldl_push (l : List (BitVec 8)) : (l.map fun b => Int.ofNat b.toNat).foldl (fun r n => r.push (UInt8.ofNat n.toNat)) ByteArray.empty = bytesOf l := by
  have hf : ∀ (l : List (BitVec 8)) (s : ByteArray), ((l.map fun b => Int.ofNat b.toNat).foldl (fun r n => r.push (UInt8.ofNat n.toNat)) s) = ⟨s.data ++ (l.map fun b => UInt8.ofNat b.toNat).toArray⟩ := by
    intro l
    induction l with
    | nil => intro s; simp
    | cons x l ih =>
      intro s
      rw [List.map_cons, List.foldl_cons, ih]
      congr 1
      simp [ByteArray.push]
  rw [hf, bytesOf_def]
  congr 1
  simp only [ByteArray.empty, ByteArray.emptyWithCapacity]
  have hm : (l.map fun b => UInt8.ofNat b.toNat) = l.map UInt8.ofBitVec := List.map_congr_left fun b _ => by
    apply UInt8.eq_of_toBitVec_eq
    simp
  rw [hm]
  apply Array.ext'
  rw [Array.toList_append]
  rfl
theorem o_convs {s t e : TypeId} {x : Operand} {tok : Option Nat} {l : List (BitVec 8)} (hs : Try.prog.underlying s = some (.slice e)) (he : Try.prog.underlying e = some (.int .u8)) (ht : Try.prog.underlying t = some .string) (hd : dOk nt d = true) (hx : evalO T x = some (.sl tok 1 (l.map byteA))) : OpOK Try.prog E nt ops ⟨d, .convert s t x, ty, pos, af, gd⟩ T H [] ⟨.v (.string (bytesOf l)), []⟩ :=
  ok_val hd fun B T' H' a w r hto hh => by
    have h := Rdv_one (by simp) (r.eval ((hto x (by simp [Op.operands])).trans hx)) rfl
    simp only [Rd] at h
    obtain ⟨A, cap, h1, h2, h3, h4, _⟩ := h
    injection h1 with h1
    refine ⟨.string (bytesOf l), ?_, by rw [Rdv_v]; exact ⟨rfl, rfl⟩⟩
    have hcv := run_convert_bytes_string (P := Try.prog) w s t e A (l.map byteA).length cap hs he ht
    simp only [execOp, h1, hcv, Sem.run_bind]
    by_cases h0 : 0 < (l.map byteA).length
    · obtain ⟨b, off, c, rfl, k1, _, k3⟩ := h4 h0
      have hc := bytes_row k3
      rw [Nat.mul_one] at k1
      have hl := run_loadCells_row (P := Try.prog) k1
      rw [hc] at hl
      rw [run_bytesToString w _ _ cap _ hl, foldl_push]
      rfl
    · have hl0 : l = [] := by cases l with
        | nil => rfl
        | cons a l => simp at h0
      subst hl0
      have hlc : (loadCells ⟨0, 0, none⟩ 0).run Try.prog w = .ok #[] w := by simp [loadCells, loadCellsFrom]
      cases A with
      | none => simp [Conv.bytesToString, bytesOf_def]; rfl
      | some a =>
        have := run_bytesToString (P := Try.prog) w a 0 cap [] (by simp [loadCells, loadCellsFrom])
        rw [List.length_map, List.length_nil, this]
        simp [bytesOf_def]
        rfl
/-- a made row, as the image of a list -/
theorem o_make {α : Type} {f : α → AV} {x0 : α} {t e : TypeId} {es bytes : Nat} {ea : Bool} {x y : Operand} {k k' : IntKind} {n : Nat} {g : Nat} (hd : dOk nt (some g) = true) (hs : tabT.ti t = some (.sl e (es + 1) bytes ea)) (hz : zeroT e = some (f x0)) (hx : evalO T x = some (.v (.int k (n : Nat)))) (hy : evalO T y = some (.v (.int k' (n : Nat)))) (hg : H g = none) (hb : bytes * n ≤ 140737488355328) (hn : n ≤ 9223372036854775807) :
    OpOK Try.prog E nt ops ⟨some g, .makeSlice t x y, ty, pos, af, gd⟩ T H [] ⟨.seg g 0 (es + 1) [] n n, [(g, .var (.arr (n * (es + 1)) (es + 1) ((List.replicate n x0).map f)))]⟩ := by
  rw [List.map_replicate]
  exact ok_make tabT hd hs (zeroT_ok hz) hx hy hg hb hn
theorem o_idxs {x ix : Operand} {t e : TypeId} {es bytes : Nat} {ea : Bool} {g off len cap : Nat} {p : List Nat} {k : IntKind} {i : Nat} (hd : dOk nt d = true) (hs : tabT.ti t = some (.sl e es bytes ea)) (hx : evalO T x = some (.seg g off es p len cap)) (hi : evalO T ix = some (.v (.int k (i : Nat)))) (hl : i < len) :
    OpOK Try.prog E nt ops ⟨d, .indexAddr t x ix, ty, pos, af, gd⟩ T H [] ⟨.ptr g (off + i * es) (p ++ [i]), []⟩ := ok_idx_seg tabT hd hs hx hi hl
/-- an element of a made row stored -/
theorem o_stm {α : Type} {f : α → AV} {xs : List α} {b : α} {x y : Operand} {t : TypeId} {g m es i : Nat} (hx : evalO T x = some (.ptr g (0 + i * es) ([] ++ [i]))) (hy : evalO T y = some (f b)) (hg : H g = some (.var (.arr m es (xs.map f)))) (hi : i < xs.length)
    (hs : tabT.sa t = some (isAggA (f b), es)) (hsz : sizeA (f b) = es) (hsa : ∀ a, sizeA (f a) = es) (hdt : dataA (f b) = true) (hnt : notTup (f b) = true) :
    OpOK Try.prog E nt ops ⟨none, .store t x y, ty, pos, af, gd⟩ T H [] ⟨.tup [], [(g, .var (.arr m es ((xs.set i b).map f)))]⟩ := by
  have hsub : subA ([] ++ [i]) (.arr m es (xs.map f)) = some (f xs[i]) := by simp [subA, hi]
  have hoff : offA ([] ++ [i]) (.arr m es (xs.map f)) = 0 + i * es := by simp [offA]
  have hset : setA (f b) ([] ++ [i]) (.arr m es (xs.map f)) = some (.arr m es ((xs.set i b).map f)) := by simp [setA, hi, hdt, List.map_set]
  exact ok_store tabT (d := none) rfl hx hy hg hsub hoff hset (by rw [hsz]; exact hs) (by rw [hsz, hsa]) hnt
end
end Go.Proofs.Ytcmdhpinelnclaa

namespace Go.Proofs.Ytcmdhpinelnclaa
open Go Go.RowKit
set_option linter.unusedVariables false
set_option linter.unusedSimpArgs false
set_option maxRecDepth 100000
set_option linter.unusedSectionVars false

section
variable {P : Program} {E : Env} {nt : Nat} {B : Blk} {T : Nat → Option AV} {H : Hp} {a : Act} {w : World}
/-- a new own row -/
theorem Rel.newOwn (r : Rel E nt B T H a w) {g es : Nat} {e : TypeId} {ys : List AV} {cs : List Value} (hg : H g = none) (hn : 0 < es) (hy : Rdu (unst E B H) w es ys B0 H0 cs) (hm : ys.length ≤ maxLen) :
    Rel E nt (upd B g w.heap.size) T (upd H g (.own e es ys)) a (w.alloc (.cells cs.toArray e)) ∧ OwnOk (w.alloc (.cells cs.toArray e)) (upd B g w.heap.size) (upd H g (.own e es ys)) g es ys.length .row (.slice (some ⟨w.heap.size, 0, none⟩) ys.length ys.length) := by
  have hlt : ∀ j bj b, H j = some bj → B j = some b → b < w.heap.size := fun j bj b h1 h2 => r.blk_lt h1 h2
  have hcl := Rdu_len hy
  refine ⟨r.new hg ⟨hn, Tie.none (r.keep _ hg), .inr ⟨w.heap.size, cs.toArray, ys.length, cs, upd_same _ _ _, heap_alloc_new w _, by simpa using hcl, Nat.le_refl _, hm, fun o _ => by simp, Rdu_go (Evo.ofExt ((Ext.refl w).alloc _)) (unst_new hlt) _ ys (Pic.refl0 _ _) hy, .inl r.left.size⟩⟩, ⟨e, ys, upd_same _ _ _, Nat.le_refl _, rfl, fun _ => ⟨fun h => ?_, fun b hb => ?_⟩⟩⟩
  · rw [upd_same] at h; cases h
  · rw [upd_same] at hb; injection hb with hb; subst hb
    exact ⟨cs.toArray, heap_alloc_new w _, ys.length, rfl, Nat.le_refl _, hm, by simpa using hcl⟩
theorem own_slice (r : Rel E nt B T H a w) {g n len : Nat} {e : TypeId} {xs : List AV} {v : Value} (h : OwnOk w B H g n len .row v) (hg : H g = some (.own e n xs)) (hl : len = xs.length) :
    ∃ A cap, v = .slice A xs.length cap ∧ xs.length ≤ cap ∧ cap ≤ maxLen := by
  obtain ⟨hn1, hn2⟩ := h.now hg hl
  subst hl
  obtain ⟨hpos, hbox⟩ := r.ownAt hg
  rcases hbox with ⟨k1, k2⟩ | ⟨b, cur, cp, c, k1, _⟩
  · subst k2; exact ⟨none, 0, hn1 k1, Nat.le_refl _, Nat.zero_le _⟩
  · obtain ⟨cu, _, cap, q1, q2, q3, _⟩ := hn2 b k1
    exact ⟨_, cap, q1, q2, q3⟩
/-- cells of an own row are turned -/
theorem Rel.ownSet (r : Rel E nt B T H a w) {g n b : Nat} {e : TypeId} {xs zs : List AV} {cur : Array Value} {news : List Value} {off : Nat} (hg : H g = some (.own e n xs)) (hb : B g = some b) (hw : w.heap[b]? = some (.cells cur e (0, 0))) (hz : Rdu (unst E B H) w n zs B0 H0 news) (hf : off + zs.length ≤ xs.length) :
    (storeCells ⟨b, off * n, none⟩ news).run P w = .ok () (putRow w b (off * n) news.toArray) ∧ Rel E nt B T (upd H g (.own e n (xs.take off ++ (zs ++ xs.drop (off + zs.length))))) a (putRow w b (off * n) news.toArray) := by
  obtain ⟨hpos, hbox⟩ := r.ownAt hg
  rcases hbox with ⟨k1, k2⟩ | ⟨b', cur', cp, c, k1, k2, k3, k4, k5, k6, k7, k8, k9⟩
  · rw [hb] at k1; cases k1
  rw [hb] at k1; injection k1 with k1; subst k1
  rw [hw] at k2; injection k2 with k2; injection k2 with k2 _ _; subst k2
  have hnl := Rdu_len hz
  have hcl := Rdu_len k7
  have hle : xs.length * n ≤ cur.size := by rw [k3]; exact Nat.mul_le_mul_right _ k4
  have h1 : off * n + zs.length * n ≤ xs.length * n := by rw [← Nat.add_mul]; exact Nat.mul_le_mul_right _ hf
  have hfit : off * n + news.length ≤ cur.size := by omega
  have hlen : (xs.take off ++ (zs ++ xs.drop (off + zs.length))).length = xs.length := by simp; omega
  have hput := putRow_heap_same (off := off * n) (cs := news.toArray) hw
  have hsp : (splice cur (off * n) news.toArray).size = cur.size := splice_size _ _ _ (by simpa using hfit)
  have hy := Rdu_append (Rdu_take off k7) (Rdu_append hz (Rdu_drop (off + zs.length) k7 hf))
  refine ⟨setCells_turned (P := P) w b (off * n) news hw hfit (Rdu_one n _ hz), (r.ownPut (ys := xs.take off ++ (zs ++ xs.drop (off + zs.length))) (c' := c.take (off * n) ++ (news ++ c.drop ((off + zs.length) * n))) hg hb hw k3 (by omega) (by omega) k5 turned_put hput hsp (fun o ho => ?_) hy).1⟩
  rw [hlen] at ho
  rw [splice_get (by simpa using hfit)]
  have e1 : (off + zs.length) * n = off * n + news.length := by rw [Nat.add_mul, hnl]
  have hct : (c.take (off * n)).length = off * n := by rw [List.length_take]; omega
  by_cases h2 : o < off * n
  · rw [if_neg (by omega), k6 o ho, List.getElem?_append_left (by omega), List.getElem?_take, if_pos h2]
  · rw [List.getElem?_append_right (by omega), hct]
    by_cases h3 : o < off * n + news.length
    · rw [if_pos (by simp; omega), List.getElem?_append_left (by omega)]; simp
    · rw [if_neg (by simp; omega), k6 o ho, List.getElem?_append_right (by omega), List.getElem?_drop, e1]
      congr 1
      omega
end
section
variable {E : Env} {nt : Nat} {ops : Array Oper} {T : Nat → Option AV} {H : Hp} {d : Option Nat} {ty : TypeId} {pos : String} {af : Array Edge} {gd : Option (Nat × Bool)}
theorem ok_len_own {x : Operand} {t e e' : TypeId} {es bytes : Nat} {ea : Bool} {g n len : Nat} {xs : List AV} (hs : tabT.ti t = some (.sl e es bytes ea)) (hd : dOk nt d = true) (hx : evalO T x = some (.own g n len .row)) (hg : H g = some (.own e' n xs)) (hl : len = xs.length) :
    OpOK Try.prog E nt ops ⟨d, .call { callee := .builtin .len, args := #[x], argTypes := #[t] }, ty, pos, af, gd⟩ T H [g] ⟨.v (.int .i64 (len : Nat)), []⟩ :=
  ok_val hd fun B T' H' a w r ht hh => by
    have hg' := (hh g (by simp)).trans hg
    obtain ⟨A, cap, hv, _⟩ := own_slice r (own_v (r.eval ((ht x (by simp [Op.operands, Call.operands])).trans hx))) hg' hl
    refine ⟨.int .i64 (len : Nat), ?_, by rw [Rdv_v]; exact ⟨rfl, rfl⟩⟩
    have hu := (tabT.ok t _ hs).2.1
    simp [execOp, resolve, invoke, builtin, hv, hl, Builtin.len_, run_underlying hu, goInt]
/-- a part of the row -/
theorem ok_cut_own {t e : TypeId} {es bytes : Nat} {ea : Bool} {x : Operand} {lo hi : Option Operand} {g len l h : Nat} {xs : List AV} (hd : dOk nt d = true) (hs : tabT.ti t = some (.sl e es bytes ea)) (hx : evalO T x = some (.own g es len .row)) (hg : H g = some (.own e es xs)) (hln : len = xs.length) (hlo : BndA T lo 0 l) (hhi : BndA T hi len h) (h1 : l < h) (h2 : h ≤ len) :
    OpOK Try.prog E nt ops ⟨d, .slice t x lo hi none, ty, pos, af, gd⟩ T H [g] ⟨.own g es len (.part l (h - l)), []⟩ :=
  ok_val hd fun B T' H' a w r ht hh => by
    subst hln
    have hg' := (hh g (by simp)).trans hg
    have h0 := own_v (r.eval ((ht x (by simp [Op.operands])).trans hx))
    obtain ⟨hn1, hn2⟩ := h0.now hg' rfl
    obtain ⟨hpos, hbox⟩ := r.ownAt hg'
    obtain ⟨_, hu, he, _⟩ := tabT.ok t _ hs
    have hz := run_sizeOf_of he w
    have hlo' := bnd_agree hlo (T' := T') (fun y hy => ht y (by simp only [Op.operands]; simp; simp at hy; exact .inr (.inl hy)))
    have hhi' := bnd_agree hhi (T' := T') (fun y hy => ht y (by simp only [Op.operands]; simp; simp at hy; exact .inr (.inr hy)))
    rcases hbox with ⟨k1, k2⟩ | ⟨b, cur, cp, c, k1, k2, _⟩
    · subst k2; simp at h2; omega
    · obtain ⟨cu, m1, cap, hv, hcap, hmx, hsz⟩ := hn2 b k1
      have hM := bounds_run (P := Try.prog) (isS := true) (len := xs.length) (cap := cap) r hlo' hhi' (show BndA T' none cap cap from rfl) (by simp) (by omega) (by omega) (Nat.le_refl _)
      refine ⟨.slice (some ⟨b, l * es, none⟩) (h - l) (cap - l), ?_, own_i ⟨e, xs, hg', Nat.le_refl _, rfl, fun _ => ⟨fun hn => (by rw [k1] at hn; cases hn), fun b' hb' => ?_⟩⟩⟩
      · simp at hM
        have hne : ¬ cap = l := by omega
        simp [execOp, hv, Instr.sliceAt, run_underlying hu, Instr.slice, hM, hz, hne, add_lit]
      · rw [k1] at hb'; injection hb' with hb'; subst hb'
        exact ⟨cu, m1, cap - l, rfl, by omega, by omega, by omega⟩
/-- a copy into a part of the row -/
theorem ok_copy_own {x y : Operand} {t tx e : TypeId} {es bytes : Nat} {ea : Bool} {g len off l : Nat} {src : AV} {xs ys : List AV} (hd : dOk nt d = true) (hs : tabT.ti t = some (.sl e es bytes ea)) (hx : evalO T x = some (.own g es len (.part off l))) (hy : evalO T y = some src) (hsrc : SrcNOf Try.prog es src ys)
    (hg : H g = some (.own e es xs)) (hln : len = xs.length) (h0 : 0 < len) (hfit : off + ys.length ≤ len) (hyl : ys.length ≤ l) :
    OpOK Try.prog E nt ops ⟨d, .call { callee := .builtin .copy, args := #[x, y], argTypes := #[t, tx] }, ty, pos, af, gd⟩ T H [g] ⟨.v (.int .i64 (ys.length : Nat)), [(g, .own e es (xs.take off ++ (ys ++ xs.drop (off + ys.length))))]⟩ :=
  ok_eff hd fun B T' H' a w r ht hh hw => by
    subst hln
    have hg' : H' g = some (.own e es xs) := (hh g (by simp)).trans hg
    have h := own_v (r.eval ((ht x (by simp [Op.operands, Call.operands])).trans hx))
    obtain ⟨s1, news, s2, s3⟩ := hsrc E B H' w _ ys.length (Nat.le_refl _) (r.eval ((ht y (by simp [Op.operands, Call.operands])).trans hy))
    rw [List.take_length] at s3
    obtain ⟨hn1, hn2⟩ := h.now hg' rfl
    obtain ⟨hpos, hbox⟩ := r.ownAt hg'
    rcases hbox with ⟨k1, k2⟩ | ⟨b, cur, cp, c, k1, k2, _⟩
    · subst k2; simp at h0
    · obtain ⟨cu, m1, cap, hv, h4, h5, h6⟩ := hn2 b k1
      obtain ⟨q1, q2⟩ := r.ownSet (P := Try.prog) hg' k1 m1 s3 hfit
      obtain ⟨_, hu, he, _⟩ := tabT.ok t _ hs
      have hzz := run_sizeOf_of he w
      have hmin : Nat.min ys.length l = ys.length := Nat.min_eq_left hyl
      have hmin' : min ys.length l = ys.length := Nat.min_eq_left hyl
      refine ⟨.int .i64 (ys.length : Nat), _, B, ?_, q2, by rw [Rdv_v]; exact ⟨rfl, rfl⟩⟩
      simp [execOp, resolve, invoke, builtin, Builtin.copy_, hv, run_underlying hu, s1, hmin, hmin', hzz, s2, q1, goInt]
/-- a part of the row cleared -/
theorem ok_clear_own {x : Operand} {t e : TypeId} {es bytes : Nat} {ea : Bool} {g len off l : Nat} {z : AV} {xs : List AV} (hs : tabT.ti t = some (.sl e (es + 1) bytes ea)) (hz : zeroT e = some z) (hx : evalO T x = some (.own g (es + 1) len (.part off l))) (hg : H g = some (.own e (es + 1) xs)) (hln : len = xs.length) (h0 : 0 < l) (hfit : off + l ≤ len) :
    OpOK Try.prog E nt ops ⟨none, .call { callee := .builtin .clear, args := #[x], argTypes := #[t] }, ty, pos, af, gd⟩ T H [g] ⟨.tup [], [(g, .own e (es + 1) (xs.take off ++ (List.replicate l z ++ xs.drop (off + l))))]⟩ :=
  ok_eff rfl fun B T' H' a w r ht hh hw => by
    subst hln
    have hg' : H' g = some (.own e (es + 1) xs) := (hh g (by simp)).trans hg
    have h := own_v (r.eval ((ht x (by simp [Op.operands, Call.operands])).trans hx))
    obtain ⟨_, hu, hte, i, zv, z1, z2, z3, z4, z5⟩ := tabT.ok t _ hs
    obtain ⟨i', zv', y1, y2, y3⟩ := zeroT_ok hz
    rw [z1] at y1; injection y1 with y1; subst y1
    rw [z2] at y2; injection y2 with y2; subst y2
    have hm := made_rdu (U := unst E B H') (w := w) (y3 _ _) (by rw [z5]; omega) l
    rw [z5] at hm
    obtain ⟨hn1, hn2⟩ := h.now hg' rfl
    obtain ⟨hpos, hbox⟩ := r.ownAt hg'
    rcases hbox with ⟨k1, k2⟩ | ⟨b, cur, cp, c, k1, k2, _⟩
    · subst k2; simp at hfit; omega
    · obtain ⟨cu, m1, cap, hv, h4, h5, h6⟩ := hn2 b k1
      obtain ⟨q1, q2⟩ := r.ownSet (P := Try.prog) (zs := List.replicate l z) (off := off) hg' k1 m1 hm (by simpa using hfit)
      rw [List.length_replicate] at q2
      obtain ⟨n, rfl⟩ : ∃ n, l = n + 1 := ⟨l - 1, by omega⟩
      have hzc : (Builtin.zeroCells zv.cells (n + 1)).toList = (madeCells zv.cells ((n + 1) * (es + 1))).toList := by rw [← z5]; rfl
      refine ⟨.tuple #[], _, B, ?_, q2, by rw [Rdv_tup]; exact ⟨[], rfl, by simp [Rdp]⟩⟩
      simp [execOp, resolve, invoke, builtin, Builtin.clear_, hv, run_underlying hu, zeroValue, typeInfo, z1, z2, hzc, q1]
/-- make: so many zero elements, an own row -/
theorem ok_make_own {t e : TypeId} {es bytes : Nat} {ea : Bool} {x y : Operand} {k k' : IntKind} {n : Nat} {z : AV} {g : Nat} (hd : dOk nt d = true) (hs : tabT.ti t = some (.sl e (es + 1) bytes ea)) (hz : zeroT e = some z) (hx : evalO T x = some (.v (.int k (n : Nat)))) (hy : evalO T y = some (.v (.int k' (n : Nat)))) (hg : H g = none) (hb : bytes * n ≤ 140737488355328) (hn : n ≤ 9223372036854775807) :
    OpOK Try.prog E nt ops ⟨d, .makeSlice t x y, ty, pos, af, gd⟩ T H [] ⟨.own g (es + 1) n .row, [(g, .own e (es + 1) (List.replicate n z))]⟩ :=
  ok_eff hd fun B T' H' a w r ht hh hw' => by
    have hg' : H' g = none := (hw' (g, .own e (es + 1) (List.replicate n z)) (by simp)).trans hg
    have e1 := r.evalv ((ht x (by simp [Op.operands])).trans hx)
    have e2 := r.evalv ((ht y (by simp [Op.operands])).trans hy)
    obtain ⟨_, hu, hte, i, zv, z1, z2, z3, z4, z5⟩ := tabT.ok t _ hs
    obtain ⟨i', zv', y1, y2, y3⟩ := zeroT_ok hz
    rw [z1] at y1; injection y1 with y1; subst y1
    rw [z2] at y2; injection y2 with y2; subst y2
    have hrun := run_make (P := Try.prog) w t e i zv hu z1 z2 k k' n n (by omega) (Int.le_refl _) (by rw [z4]; exact imul_le _ _ hb) (by omega)
    simp only [Int.toNat_natCast, z3] at hrun
    have hm := made_rdu (U := unst E B H') (w := w) (y3 _ _) (by rw [z5]; omega) n
    rw [z5] at hm
    obtain ⟨q1, q2⟩ := r.newOwn (e := e) hg' (Nat.succ_pos es) hm (by rw [List.length_replicate]; unfold maxLen; omega)
    rw [Array.toArray_toList, List.length_replicate] at q2
    rw [Array.toArray_toList] at q1
    refine ⟨_, _, _, ?_, q1, own_i q2⟩
    simp [execOp, e1, e2, hrun]
/-- zeros behind the row -/
theorem ok_zeros_own {s x : Operand} {t tx e : TypeId} {es bytes : Nat} {ea : Bool} {k kn : IntKind} {g len len' m : Nat} {z : AV} {xs : List AV} (hd : dOk nt d = true) (hs : tabT.ti t = some (.sl e (es + 1) bytes ea)) (hz : zeroT e = some z) (hx : evalO T s = some (.own g (es + 1) len .row)) (hg : H g = some (.own e (es + 1) xs)) (hln : len = xs.length)
    (htx : Try.prog.underlying tx = some (.int kn)) (hy : evalO T x = some (.v (.int k (m : Nat)))) (hln' : len' = len + m) (hlen : (len + m) * bytes ≤ 140737488355328) (hlen2 : len + m ≤ 4611686018427387904) :
    OpOK Try.prog E nt ops ⟨d, .call { callee := .builtin .append, args := #[s, x], argTypes := #[t, tx] }, ty, pos, af, gd⟩ T H [g] ⟨.own g (es + 1) len' .row, [(g, .own e (es + 1) (xs ++ List.replicate m z))]⟩ :=
  ok_eff hd fun B T' H' a w r ht hh hw => by
    subst hln hln'
    have hg' : H' g = some (.own e (es + 1) xs) := (hh g (by simp)).trans hg
    have h := own_v (r.eval ((ht s (by simp [Op.operands, Call.operands])).trans hx))
    have hev := r.evalv ((ht x (by simp [Op.operands, Call.operands])).trans hy)
    obtain ⟨_, hu, hte, i, zv, z1, z2, z3, z4, z5⟩ := tabT.ok t _ hs
    obtain ⟨i', zv', y1, y2, y3⟩ := zeroT_ok hz
    rw [z1] at y1; injection y1 with y1; subst y1
    rw [z2] at y2; injection y2 with y2; subst y2
    have hm := made_rdu (U := unst E B H') (w := w) (y3 _ _) (by rw [z5]; omega) m
    rw [z5] at hm
    have hml := Rdu_len hm
    rw [List.length_replicate] at hml
    have hzc : ∀ n, Builtin.zeroCells zv.cells n = madeCells zv.cells (n * (es + 1)) := fun n => by rw [← z5]; rfl
    obtain ⟨hn1, hn2⟩ := h.now hg' rfl
    obtain ⟨hpos, hbox⟩ := r.ownAt hg'
    obtain ⟨A, cap, hsv, hcap, hcm⟩ := own_slice r h hg' rfl
    have hwr : IntKind.i64.wrap (m : Int) = m := by rw [IntKind.wrap_i64]; omega
    have hneg : ¬ ((m : Int) < 0) := by omega
    have hmb : m * bytes ≤ 140737488355328 := by
      have : m * bytes ≤ (xs.length + m) * bytes := Nat.mul_le_mul_right _ (by omega)
      omega
    have h48 : ¬ (281474976710656 < (m : Int) * (i.bytes : Int)) := by
      rw [z4, ← Int.natCast_mul]; omega
    by_cases hm0 : m = 0
    · subst hm0
      have hr : (Builtin.append_ #[t, tx] ty #[.slice A xs.length cap, .int k (0 : Nat)]).run Try.prog w = .ok (.slice A xs.length cap) w := by
        cases A <;> simp [Builtin.append_, run_underlying hu, run_underlying htx, sizeOf, typeInfo, zeroValue, z1, z2, asInt, asIntOf, hcap, storeCells, show IntKind.i64.wrap 0 = 0 from by rw [IntKind.wrap_i64]; omega]
      refine ⟨.slice A xs.length cap, w, B, by simp only [execOp, resolve, invoke, builtin, List.map_toArray, List.map_cons, List.map_nil, hsv, hev, Sem.run_bind, Sem.run_pure, Result.andThen_ok, hr], ?_, ?_⟩
      · rw [List.replicate_zero, List.append_nil]
        have : updH H' [(g, Bx.own e (es + 1) xs)] = H' := upd_eta hg'
        rw [this]; exact r
      · rw [List.replicate_zero, List.append_nil]
        have : updH H' [(g, Bx.own e (es + 1) xs)] = H' := upd_eta hg'
        simp only [this]
        rw [Nat.add_zero, ← hsv]
        exact own_i h
    have hlt : xs.length < (xs ++ List.replicate m z).length := by simp; omega
    have hel : (xs ++ List.replicate m z).length = xs.length + m := by simp
    have fin : ∀ (v : Value) (w' : World), (Builtin.append_ #[t, tx] ty #[.slice A xs.length cap, .int k (m : Nat)]).run Try.prog w = .ok v w' → (execOp a.eval ⟨d, .call { callee := .builtin .append, args := #[s, x], argTypes := #[t, tx] }, ty, pos, af, gd⟩).run Try.prog w = .ok (.value v) w' := fun v w' hr => by
      simp only [execOp, resolve, invoke, builtin, List.map_toArray, List.map_cons, List.map_nil, hsv, hev, Sem.run_bind, Sem.run_pure, Result.andThen_ok, hr]
    have hcmax : ∀ c, grownCap w (xs.length + m) c e ≤ maxLen := fun c => grownCap_le_maxLen w _ c e (by unfold maxLen; omega)
    have fresh : ∀ (olds : List Value), cap < xs.length + m → Rdu (unst E B H') w (es + 1) xs B0 H0 olds → (Builtin.firstCells i.size xs.length (.slice A xs.length cap)).run Try.prog w.drew = .ok olds.toArray w.drew →
        ∃ v w' B', (execOp a.eval ⟨d, .call { callee := .builtin .append, args := #[s, x], argTypes := #[t, tx] }, ty, pos, af, gd⟩).run Try.prog w = .ok (.value v) w' ∧ Rel E nt B' T' (upd H' g (.own e (es + 1) (xs ++ List.replicate m z))) a w' ∧ OwnOk w' B' (upd H' g (.own e (es + 1) (xs ++ List.replicate m z))) g (es + 1) (xs.length + m) .row v := by
      intro olds hc hO hold
      have hol := Rdu_len hO
      have hr := Lib.run_append_grow_zeros (P := Try.prog) w t tx ty e i zv k kn hu htx z1 z2 A xs.length cap olds hold m (by omega) (by rw [z3]; omega) hc (by omega) (by rw [z4]; omega) (growslice_fits (by omega) (by rw [z4]; exact hlen))
      have hge := grownCap_ge w (xs.length + m) cap e
      have hsz : (olds.toArray ++ Builtin.zeroCells zv.cells m ++ Builtin.zeroCells zv.cells (grownCap w (xs.length + m) cap e - (xs.length + m))).size = grownCap w (xs.length + m) cap e * (es + 1) := by
        simp only [Array.size_append, List.size_toArray, size_zeroCells, z5, hol, ← Nat.add_mul]
        congr 1; omega
      have hreg := r.ownNew (ys := xs ++ List.replicate m z) (c' := olds ++ (madeCells zv.cells (m * (es + 1))).toList) hg' hlt hsz (by rw [hel]; exact hge) (hcmax cap) (fun o ho => by
        rw [hel, Nat.add_mul, ← hol, ← hml, ← List.length_append] at ho
        rw [Array.getElem?_append_left (by simp [hzc] at ho ⊢; omega), hzc]
        by_cases ho' : o < olds.length
        · rw [Array.getElem?_append_left (by simpa using ho'), List.getElem?_append_left ho']; simp
        · rw [Array.getElem?_append_right (by simp; omega), List.getElem?_append_right (by omega)]; simp) (Rdu_append hO hm)
      refine ⟨_, _, _, fin _ _ hr, hreg, ⟨e, xs ++ List.replicate m z, upd_same _ _ _, Nat.le_of_eq hel.symm, rfl, fun _ => ⟨fun h => ?_, fun b hb => ?_⟩⟩⟩
      · rw [upd_same] at h; cases h
      · rw [upd_same] at hb; injection hb with hb; subst hb
        exact ⟨_, heap_alloc_new w.drew _, _, rfl, hge, hcmax cap, hsz⟩
    have main : ∃ v w' B', (execOp a.eval ⟨d, .call { callee := .builtin .append, args := #[s, x], argTypes := #[t, tx] }, ty, pos, af, gd⟩).run Try.prog w = .ok (.value v) w' ∧ Rel E nt B' T' (upd H' g (.own e (es + 1) (xs ++ List.replicate m z))) a w' ∧ OwnOk w' B' (upd H' g (.own e (es + 1) (xs ++ List.replicate m z))) g (es + 1) (xs.length + m) .row v := by
      rcases hbox with ⟨k1, k2⟩ | ⟨b, cur, cp, c, k1, k2, k3, k4, k5, k6, k7, k8, k9⟩
      · subst k2
        have := hn1 k1
        rw [hsv] at this
        injection this with e1 e2 e3
        subst e1 e3
        exact fresh [] (by simp; omega) (by simp [Rdu]) (by simp [Builtin.firstCells])
      · obtain ⟨cu, m1, cap', m2, m3, m4, m5⟩ := hn2 b k1
        rw [k2] at m1; injection m1 with m1; injection m1 with m1 _ _; subst m1
        rw [hsv] at m2
        injection m2 with e1 e2 e3
        subst e1 e3
        have hcl := Rdu_len k7
        by_cases hroom : xs.length + m ≤ cap
        · have hfit : xs.length * (es + 1) + (madeCells zv.cells (m * (es + 1))).toList.length ≤ cur.size := by rw [hml, m5, ← Nat.add_mul]; exact Nat.mul_le_mul_right _ hroom
          have hst := setCells_turned (P := Try.prog) w b (xs.length * (es + 1)) (madeCells zv.cells (m * (es + 1))).toList k2 hfit (Rdu_one (es + 1) _ hm)
          have hns : ¬ (m * (es + 1) = 0) := Nat.mul_ne_zero hm0 (Nat.succ_ne_zero es)
          have hr : (Builtin.append_ #[t, tx] ty #[.slice (some ⟨b, 0, none⟩) xs.length cap, .int k (m : Nat)]).run Try.prog w = .ok (.slice (some ⟨b, 0, none⟩) (xs.length + m) cap) (putRow w b (xs.length * (es + 1)) (madeCells zv.cells (m * (es + 1))).toList.toArray) := by
            have ha := add_lit b 0 (xs.length * (es + 1))
            rw [Nat.zero_add] at ha
            simp [Builtin.append_, run_underlying hu, run_underlying htx, sizeOf, typeInfo, zeroValue, z1, z2, z3, asInt, asIntOf, hwr, hneg, h48, hroom, hm0, hzc, ha, hst]
            exact fun h => absurd h hns
          have hput := putRow_heap_same (off := xs.length * (es + 1)) (cs := (madeCells zv.cells (m * (es + 1))).toList.toArray) k2
          have hsp : (splice cur (xs.length * (es + 1)) (madeCells zv.cells (m * (es + 1))).toList.toArray).size = cur.size := splice_size _ _ _ (by rw [List.size_toArray]; exact hfit)
          have hrm := r.ownPut (ys := xs ++ List.replicate m z) (c' := c ++ (madeCells zv.cells (m * (es + 1))).toList) hg' k1 k2 m5 (by omega) (by rw [hel]; exact hroom) m4 turned_put hput hsp (fun o ho => by
            rw [hel, Nat.add_mul] at ho
            rw [splice_get (by rw [List.size_toArray]; exact hfit)]
            by_cases h1 : o < xs.length * (es + 1)
            · rw [if_neg (by omega), k6 o h1, List.getElem?_append_left (by omega)]
            · rw [if_pos (by rw [List.size_toArray]; omega), List.getElem?_append_right (by omega), hcl]; simp) (Rdu_append k7 hm)
          refine ⟨_, _, B, fin _ _ hr, hrm.1, ⟨e, xs ++ List.replicate m z, upd_same _ _ _, Nat.le_of_eq hel.symm, rfl, fun _ => ⟨fun h => ?_, fun b' hb' => ?_⟩⟩⟩
          · rw [k1] at h; cases h
          · rw [k1] at hb'; injection hb' with hb'; subst hb'
            exact ⟨_, hput, cap, rfl, hroom, m4, by rw [hsp]; exact m5⟩
        · refine fresh c (by omega) k7 ?_
          rw [z3]
          exact run_firstCells_some (P := Try.prog) w.drew (es + 1) xs.length ⟨b, 0, none⟩ xs.length cap c (by rw [hcl]) (by simpa using cells_of_row k9)
    obtain ⟨v, w', B', h1, h2, h3⟩ := main
    exact ⟨v, w', B', h1, h2, own_i h3⟩
/-- a row with its elements -/
theorem ok_bsl_own {t e : TypeId} {es bytes len : Nat} {ea : Bool} {l : List (Nat × Operand)} {vs : List (Nat × AV)} {z : AV} {out : List AV} {g : Nat} (hd : dOk nt d = true) (hs : tabT.ti t = some (.sl e (es + 1) bytes ea)) (hz : zeroT e = some z) (hv : partsA T l = some vs) (ho : fillA vs (List.replicate (len + 1) z) = some out) (hg : H g = none)
    (hdt : ∀ H', WkL H' out out) (hsz : out.all (fun x => Nat.beq (sizeA x) (es + 1)) = true) (hlen : out.length = len + 1) (hsmall : Nat.ble ((len + 1) * (es + 1)) 16777216 = true) :
    OpOK Try.prog E nt ops ⟨d, .buildSlice t (len + 1) l.toArray, ty, pos, af, gd⟩ T H [] ⟨.own g (es + 1) (len + 1) .row, [(g, .own e (es + 1) out)]⟩ :=
  ok_eff hd fun B T' H' a w r ht hh hw' => by
    have hg' : H' g = none := (hw' (g, .own e (es + 1) out) (by simp)).trans hg
    obtain ⟨_, hu, hte, i, zv, z1, z2, z3, z4, z5⟩ := tabT.ok t _ hs
    obtain ⟨i', zv', y1, y2, y3⟩ := zeroT_ok hz
    rw [z1] at y1; injection y1 with y1; subst y1
    rw [z2] at y2; injection y2 with y2; subst y2
    have hzr := y3 (unst E B H') w
    have hzl : sizeA z = es + 1 := by rw [← Rd_len hzr]; simpa using z5
    have hm := Rdu_rds (Rdu_go (Evo.refl _ w) (fun _ _ _ h => h) _ _ ⟨fun g b h _ => by simp [H0, isVar] at h, fun g h => by simp [H0, isVar] at h, fun t n len A cap h => by obtain ⟨e, k, h, _⟩ := h; simp [H0] at h, fun g n len k v h => by obtain ⟨e, xs, h, _⟩ := h; simp [H0] at h⟩ (made_rdu (U := unst E B H') (w := w) hzr (by rw [z5]; omega) (len + 1)) : Rdu (unst E B H') w zv.cells.size (List.replicate (len + 1) z) B H' _)
    have hv' := parts_agree hv (T' := T') (fun p hp => ht p.2 (by simp [Op.operands]; exact ⟨p.1, hp⟩))
    have hsum : ∀ k i, sumS ((List.replicate k z).take i) = min i k * (es + 1) := by
      intro k
      induction k with
      | zero => intro i; simp [sumS]
      | succ k ih =>
        intro i
        cases i with
        | zero => simp [sumS]
        | succ i => simp only [List.replicate_succ, List.take_succ_cons, sumS, ih, hzl]; rw [Nat.succ_min_succ, Nat.succ_mul]; omega
    obtain ⟨cells', q1, q2⟩ := fill_rds r l vs _ out _ hv' ho (place := fun i => some (i * (es + 1), es + 1)) (fun i y h => by
      have hlt := (List.getElem?_eq_some_iff.1 h).1
      simp at hlt
      rw [List.getElem?_replicate, if_pos hlt] at h
      injection h with h
      subst h
      rw [hsum, hzl]
      have : min i (len + 1) = i := by omega
      rw [this]) hm
    have hszl : ∀ x ∈ out, sizeA x = es + 1 := fun x hx => Nat.eq_of_beq_eq_true (List.all_eq_true.1 hsz x hx)
    have hrdu := (hdt H').rdu (Rds_rdu q2 hszl)
    have hcl := Rdu_len hrdu
    have hsm : (len + 1) * (es + 1) ≤ 16777216 := Nat.le_of_ble_eq_true hsmall
    have hlm : len + 1 ≤ (len + 1) * (es + 1) := Nat.le_mul_of_pos_right _ (Nat.succ_pos es)
    obtain ⟨k1, k2⟩ := r.newOwn (e := e) hg' (Nat.succ_pos es) hrdu (by rw [hlen]; unfold maxLen; omega)
    rw [hlen] at k2
    have hbs := run_buildSlice (P := Try.prog) w t e (len + 1) (l.map fun p => (p.1, a.eval p.2)).toArray cells'.toArray i zv hu z1 z2 (by rw [z3]; omega) (by rw [z3]; have := Nat.mul_pos (Nat.succ_pos len) (Nat.succ_pos es); omega) (by
      rw [z3]
      have := fill_of_fillS _ _ _ q1
      rw [Array.toArray_toList] at this
      have e1 : madeCells zv.cells ((len + 1) * zv.cells.size) = (Array.range ((len + 1) * (es + 1))).map (zv.cells[· % zv.cells.size]!) := by rw [← z5]; rfl
      rw [e1] at this
      simpa using this)
    refine ⟨_, _, _, ?_, k1, own_i k2⟩
    have hmm : (Array.map (fun x => (x.1, a.eval x.2)) l.toArray) = (l.map fun p => (p.1, a.eval p.2)).toArray := by simp
    simp only [execOp, hmm, Sem.run_bind, hbs]
    rfl
end
end Go.Proofs.Ytcmdhpinelnclaa

namespace Go.Proofs.Ytcmdhpinelnclaa

/-- one step of the register -/
def stepL (r : BitVec 32) : BitVec 32 := if r.getLsbD 0 then (r >>> 1) ^^^ 0xedb88320#32 else r >>> 1

theorem stepL_xor (a b : BitVec 32) : stepL (a ^^^ b) = stepL a ^^^ stepL b := by
  unfold stepL
  rw [BitVec.getLsbD_xor, BitVec.ushiftRight_xor_distrib]
  cases a.getLsbD 0 <;> cases b.getLsbD 0 <;> simp
  · rw [BitVec.xor_assoc]
  · rw [BitVec.xor_assoc, BitVec.xor_comm (b >>> 1), BitVec.xor_assoc]
  · rw [BitVec.xor_assoc (a >>> 1), BitVec.xor_comm (b >>> 1), ← BitVec.xor_assoc 0xedb88320#32, BitVec.xor_self, BitVec.zero_xor]

theorem toNat_shr1 (c : BitVec 32) : (c >>> 1).toNat = c.toNat / 2 := by
  rw [BitVec.toNat_ushiftRight, Nat.shiftRight_eq_div_pow]

theorem lsb_toNat (c : BitVec 32) : c.getLsbD 0 = decide (c.toNat % 2 = 1) := by
  rw [BitVec.getLsbD, Bool.eq_iff_iff]
  simp [Nat.testBit]

theorem stepL_eq_zero {c : BitVec 32} (h : stepL c = 0#32) : c = 0#32 := by
  unfold stepL at h
  have h1 := toNat_shr1 c
  have h2 := c.isLt
  rw [lsb_toNat] at h
  by_cases hc : c.toNat % 2 = 1
  · simp only [hc, decide_true, if_true] at h
    have h3 : c >>> 1 = 0xedb88320#32 := by
      have := congrArg (· ^^^ 0xedb88320#32) h
      simpa [BitVec.xor_assoc] using this
    rw [h3] at h1
    simp at h1
    omega
  · simp only [hc, decide_false, if_false, Bool.false_eq_true] at h
    rw [h] at h1
    apply BitVec.eq_of_toNat_eq
    simp at h1 ⊢
    omega

/-- n steps -/
def stepN : Nat → BitVec 32 → BitVec 32
  | 0, r => r
  | n + 1, r => stepN n (stepL r)

theorem stepN_succ' (n : Nat) (r : BitVec 32) : stepN (n + 1) r = stepL (stepN n r) := by
  induction n generalizing r with
  | zero => rfl
  | succ n ih => rw [stepN, ih]; rfl

theorem stepN_xor (n : Nat) (a b : BitVec 32) : stepN n (a ^^^ b) = stepN n a ^^^ stepN n b := by
  induction n generalizing a b with
  | zero => rfl
  | succ n ih => simp only [stepN]; rw [stepL_xor, ih]

theorem stepN_eq_zero {n : Nat} {c : BitVec 32} (h : stepN n c = 0#32) : c = 0#32 := by
  induction n generalizing c with
  | zero => exact h
  | succ n ih => exact stepL_eq_zero (ih h)

/-- where the n lowest bits are 0 n steps shift -/
theorem stepN_shift (n : Nat) (c : BitVec 32) (h : c.toNat % 2 ^ n = 0) : (stepN n c).toNat = c.toNat / 2 ^ n := by
  induction n generalizing c with
  | zero => simp [stepN]
  | succ n ih =>
    have hp : 0 < 2 ^ n := Nat.two_pow_pos n
    have h2 : c.toNat % 2 = 0 := by
      have := Nat.mod_mod_of_dvd c.toNat (show 2 ∣ 2 ^ (n + 1) from ⟨2 ^ n, by rw [Nat.pow_succ, Nat.mul_comm]⟩)
      rw [h] at this; omega
    have h3 : (stepL c).toNat = c.toNat / 2 := by
      unfold stepL
      rw [lsb_toNat, if_neg (by simp; omega), toNat_shr1]
    have h4 : (stepL c).toNat % 2 ^ n = 0 := by
      rw [h3]
      have hd : 2 ^ (n + 1) ∣ c.toNat := Nat.dvd_of_mod_eq_zero h
      obtain ⟨q, hq⟩ := hd
      rw [hq, Nat.pow_succ, Nat.mul_comm (2 ^ n) 2, Nat.mul_assoc, Nat.mul_div_cancel_left _ (by omega), Nat.mul_mod_right]
    simp only [stepN]
    rw [ih _ h4, h3, Nat.div_div_eq_div_mul, Nat.pow_succ, Nat.mul_comm]

/-- a byte -/
def stepB (r : BitVec 32) (b : BitVec 8) : BitVec 32 := stepN 8 (r ^^^ b.setWidth 32)

/-- a text -/
def runB (r : BitVec 32) : List (BitVec 8) → BitVec 32
  | [] => r
  | b :: l => runB (stepB r b) l

theorem runB_append (r : BitVec 32) (a b : List (BitVec 8)) : runB r (a ++ b) = runB (runB r a) b := by
  induction a generalizing r with
  | nil => rfl
  | cons x a ih => simp only [List.cons_append, runB]; rw [ih]

theorem runB_snoc (r : BitVec 32) (a : List (BitVec 8)) (b : BitVec 8) : runB r (a ++ [b]) = stepB (runB r a) b := by rw [runB_append]; rfl

theorem runB_take (r : BitVec 32) (l : List (BitVec 8)) (k : Nat) (h : k < l.length) : runB r (l.take (k + 1)) = stepB (runB r (l.take k)) l[k] := by
  rw [List.take_succ_eq_append_getElem h, runB_snoc]

/-- the checksum of what has the checksum s, with bytes behind it -/
def moreL (s : BitVec 32) (l : List (BitVec 8)) : BitVec 32 := ~~~ runB (~~~ s) l
def sumL (l : List (BitVec 8)) : BitVec 32 := moreL 0#32 l

/-- the register is its low byte and the rest -/
theorem low_high (z : BitVec 32) : z = (z.setWidth 8).setWidth 32 ^^^ ((z >>> 8) <<< 8) := by
  apply BitVec.eq_of_getLsbD_eq
  intro i hi
  simp only [BitVec.getLsbD_xor, BitVec.getLsbD_setWidth, BitVec.getLsbD_shiftLeft, BitVec.getLsbD_ushiftRight]
  by_cases h8 : i < 8
  · simp [h8, hi]
  · have : 8 + (i - 8) = i := by omega
    simp [h8, hi]
    rw [this, BitVec.getLsbD_eq_getElem hi]

theorem table_law (z : BitVec 32) : stepN 8 z = stepN 8 ((z.setWidth 8).setWidth 32) ^^^ (z >>> 8) := by
  conv => lhs; rw [low_high z]
  rw [stepN_xor]
  congr 1
  apply BitVec.eq_of_toNat_eq
  have hz := z.isLt
  have h1 : ((z >>> 8) <<< 8).toNat = z.toNat / 256 * 256 := by
    rw [BitVec.toNat_shiftLeft, BitVec.toNat_ushiftRight, Nat.shiftRight_eq_div_pow, Nat.shiftLeft_eq]
    omega
  rw [stepN_shift 8 _ (by rw [h1]; omega), h1, BitVec.toNat_ushiftRight, Nat.shiftRight_eq_div_pow]
  omega

theorem table_step (x : BitVec 32) (c : BitVec 8) : stepB x c = stepN 8 ((x.setWidth 8 ^^^ c).setWidth 32) ^^^ (x >>> 8) := by
  unfold stepB
  rw [table_law]
  congr 1
  · congr 2
    apply BitVec.eq_of_getLsbD_eq
    intro i hi
    simp [hi, show i < 32 by omega]
  · apply BitVec.eq_of_getLsbD_eq
    intro i hi
    simp only [BitVec.getLsbD_ushiftRight, BitVec.getLsbD_xor, BitVec.getLsbD_setWidth]
    simp

/-! ### linear -/
def xorB (a b : List (BitVec 8)) : List (BitVec 8) := List.zipWith (· ^^^ ·) a b

theorem stepB_xor (r s : BitVec 32) (a b : BitVec 8) : stepB (r ^^^ s) (a ^^^ b) = stepB r a ^^^ stepB s b := by
  unfold stepB
  rw [← stepN_xor]
  congr 1
  have : (a ^^^ b).setWidth 32 = a.setWidth 32 ^^^ b.setWidth 32 := BitVec.setWidth_xor
  rw [this, BitVec.xor_assoc, BitVec.xor_assoc, ← BitVec.xor_assoc s, BitVec.xor_comm s, BitVec.xor_assoc]

theorem stepB_inj {r s : BitVec 32} {b : BitVec 8} (h : stepB r b = stepB s b) : r = s := by
  have h1 := stepB_xor r s b b
  rw [h, BitVec.xor_self, BitVec.xor_self] at h1
  have h2 := stepN_eq_zero (n := 8) (by simpa [stepB] using h1)
  have := congrArg (· ^^^ s) h2
  simpa [BitVec.xor_assoc] using this

theorem runB_inj {r s : BitVec 32} {l : List (BitVec 8)} (h : runB r l = runB s l) : r = s := by
  induction l generalizing r s with
  | nil => exact h
  | cons x l ih => exact stepB_inj (ih h)

/-! ### a burst of four bytes -/
theorem stepB_turn (r : BitVec 32) (b x : BitVec 8) : stepB r b = stepB r (b ^^^ x) ↔ x = 0#8 := by
  constructor
  · intro h
    have h1 := stepB_xor r r b (b ^^^ x)
    rw [← h, BitVec.xor_self, BitVec.xor_self, ← BitVec.xor_assoc, BitVec.xor_self, BitVec.zero_xor] at h1
    have h2 := stepN_eq_zero (n := 8) (by simpa [stepB] using h1)
    apply BitVec.eq_of_toNat_eq
    have h3 := congrArg BitVec.toNat h2
    simp at h3
    have := x.isLt
    simp
    omega
  · rintro rfl
    simp
theorem sumL_turned (l : List (BitVec 8)) (k : Nat) (hk : k < l.length) (x : BitVec 8) : sumL l = sumL (l.set k (l[k] ^^^ x)) ↔ x = 0#8 := by
  have e1 : l = l.take k ++ l[k] :: l.drop (k + 1) := by rw [List.getElem_cons_drop, List.take_append_drop]
  have e2 : l.set k (l[k] ^^^ x) = l.take k ++ (l[k] ^^^ x) :: l.drop (k + 1) := by rw [List.set_eq_take_append_cons_drop, if_pos hk]
  unfold sumL moreL
  rw [e2]
  conv => lhs; lhs; rw [e1]
  rw [runB_append, runB_append]
  simp only [runB]
  constructor
  · intro h
    have h1 : runB (stepB (runB (~~~ 0#32) (l.take k)) l[k]) (l.drop (k + 1)) = runB (stepB (runB (~~~ 0#32) (l.take k)) (l[k] ^^^ x)) (l.drop (k + 1)) := by
      have := congrArg (fun z => ~~~ z) h
      simpa using this
    exact (stepB_turn _ _ _).1 (runB_inj h1)
  · rintro rfl
    simp

/-- the byte number j of x -/
def byteK (x : BitVec 32) (j : Nat) : BitVec 8 := (x >>> (8 * j)).setWidth 8
/-- j bytes turned from place k on -/
def turnK (l : List (BitVec 8)) (k : Nat) (x : BitVec 32) : Nat → List (BitVec 8)
  | 0 => l
  | j + 1 => (turnK l k x j).set (k + j) ((turnK l k x j).getD (k + j) 0#8 ^^^ byteK x j)
end Go.Proofs.Ytcmdhpinelnclaa

namespace Go.Proofs.Ytcmdhpinelnclaa
open Go Go.RowKit
set_option linter.unusedVariables false
set_option linter.unusedSimpArgs false
set_option maxRecDepth 100000



theorem W32_shr1 (y : BitVec 32) : W32 y / (2 : Int) = W32 (y >>> 1) := W32_shr y 1
theorem W32_shr8 (y : BitVec 32) : W32 y / (256 : Int) = W32 (y >>> 8) := W32_shr y 8
theorem W32_poly (a : BitVec 32) : bits .xor .u32 (W32 a) 3988292384 = W32 (a ^^^ 0xedb88320#32) := by
  have h : W32 0xedb88320#32 = 3988292384 := by rw [W32_def]; rfl
  rw [← h, W32_xor]
/-- the lowest bit -/
@[irreducible] def lsb (a : BitVec 32) : Bool := a.getLsbD 0
theorem W32_and1 (a : BitVec 32) : bits .and .u32 (W32 a) 1 = if lsb a then 1 else 0 := by
  unfold lsb
  rw [W32_def]
  have h := u32_and_nat a.toNat 1 a.isLt (by omega)
  rw [show ((1 : Nat) : Int) = 1 from rfl] at h
  rw [h, Nat.and_one_is_mod, lsb_toNat]
  by_cases hc : a.toNat % 2 = 1
  · simp [hc]
  · simp [hc]; omega
theorem and1_eq (c : Bool) : ((if c then (1 : Int) else 0) == 1) = c := by cases c <;> rfl
attribute [local go_sem] W32_shr1 W32_shr8 W32_poly W32_and1 and1_eq

theorem stepN_step (j : Nat) (x : BitVec 32) (h : lsb (stepN j x) = true) : stepN (j + 1) x = (stepN j x >>> 1) ^^^ 0xedb88320#32 := by
  unfold lsb at h
  rw [stepN_succ', stepL, if_pos h]
theorem stepN_skip (j : Nat) (x : BitVec 32) (h : lsb (stepN j x) = false) : stepN (j + 1) x = stepN j x >>> 1 := by
  unfold lsb at h
  rw [stepN_succ', stepL, if_neg (by rw [h]; simp)]

set_option maxHeartbeats 400000 in
/-- the document's step -/
theorem refstep_any (r : BitVec 32) (b : BitVec 8) (w : World) :
    Calls Try.prog 85 #[.int .u32 (W32 r), .int .u8 (B8 b)] w fun e w' => e = .returned (.int .u32 (W32 (stepB r b))) ∧ w = w' := by
  go_enter Try.func85, Try.ntmps85
  go_wp2
  go_loop [0, 5] (fun x i => ∃ k : Nat, k ≤ 8 ∧ i = .int .i64 k ∧ x = .int .u32 (W32 (stepN k (r ^^^ b.setWidth 32)))) (fun _ i => 8 - (intOf i).toNat)
  case atStart => exact ⟨0, by omega, rfl, rfl⟩
  case round =>
    obtain ⟨k, hk, rfl, rfl⟩ := hrel
    by_cases hlt : k < 8
    · cases hb : lsb (stepN k (r ^^^ b.setWidth 32))
      · have hs := Lib.hid (stepN_skip k _ hb)
        go_wp2
        go_round
        case rel => exact ⟨k + 1, by omega, by go_num, by rw [hs.out]⟩
        case measure => simp [intOf]; omega
      · have hs := Lib.hid (stepN_step k _ hb)
        go_wp2
        go_round
        case rel => exact ⟨k + 1, by omega, by go_num, by rw [hs.out]⟩
        case measure => simp [intOf]; omega
    · obtain rfl : k = 8 := by omega
      go_wp2
      go_ret
      exact ⟨rfl, rfl⟩

set_option maxHeartbeats 400000 in
/-- the document's More -/
theorem refmore_any (r : BitVec 32) (v : Value) (bs : List (BitVec 8)) (w : World) (h : Sl be 1 w v bs) :
    Calls Try.prog 62 #[.int .u32 (W32 r), v] w fun e w' => e = .returned (.int .u32 (W32 (moreL r bs))) ∧ w = w' := by
  obtain ⟨A, cap, rfl, h0, h1, hA⟩ := h
  unfold maxLen at h1
  go_enter Try.func62, Try.ntmps62
  go_wp2
  go_loop [5, 6] (fun x i => ∃ k : Nat, k ≤ bs.length ∧ i = .int .i64 k ∧ x = .int .u32 (W32 (runB (~~~ r) (bs.take k)))) (fun _ i => bs.length - (intOf i).toNat)
  case atStart => exact ⟨0, by omega, rfl, rfl⟩
  case round =>
    obtain ⟨k, hk, rfl, rfl⟩ := hrel
    by_cases hlt : k < bs.length
    · obtain ⟨b, off, rfl, hb, hc⟩ := hA (by omega)
      have hc1 := SlAt.byte' hc hlt
      have hs := Lib.hid (runB_take (~~~ r) bs k hlt)
      clear hc hA
      go_wp2_with (go_at_call 85; refine (refstep_any _ _ _).mono ?_; rintro e w' ⟨rfl, rfl⟩)
      go_round
      case rel => exact ⟨k + 1, by omega, by go_num, by rw [hs.out]⟩
      case measure => simp [intOf]; omega
    · obtain rfl : k = bs.length := by omega
      go_wp2
      go_ret
      exact ⟨by simp [moreL], rfl⟩

set_option maxHeartbeats 400000 in
/-- the document's Sum -/
theorem refsum_any (v : Value) (bs : List (BitVec 8)) (w : World) (h : Sl be 1 w v bs) :
    Calls Try.prog 37 #[v] w fun e w' => e = .returned (.int .u32 (W32 (sumL bs))) ∧ w = w' := by
  have h0 := Lib.hid (show (0 : Int) = W32 0#32 by rw [W32_def]; rfl)
  go_enter Try.func37, Try.ntmps37
  go_wp2_with fail
  rw [h0.out]
  refine (refmore_any _ _ _ _ h).mono ?_
  rintro e w' ⟨rfl, rfl⟩
  go_wp2
  go_ret
  exact ⟨rfl, rfl⟩

/-- how many bytes 0 -/
def many (n : Int) : Nat := min n.toNat 65536
/-! ### the program's table -/
@[irreducible] def zero256 : Array Value := Array.replicate 256 (.int .u32 0)
def tabK : Nat → Array Value
  | 0 => zero256
  | k + 1 => (tabK k).setIfInBounds k (.int .u32 (W32 (stepN 8 (BitVec.ofNat 32 k))))
theorem tabK_zero : tabK 0 = zero256 := rfl
theorem tabK_succ (k : Nat) : tabK (k + 1) = (tabK k).setIfInBounds k (.int .u32 (W32 (stepN 8 (BitVec.ofNat 32 k)))) := rfl
theorem tabK_size (k : Nat) : (tabK k).size = 256 := by
  induction k with
  | zero => rw [tabK_zero]; unfold zero256; simp
  | succ k ih => rw [tabK_succ]; simp [ih]
theorem tabK_get (k i : Nat) (hi : i < 256) : (tabK k)[i]? = some (if i < k then .int .u32 (W32 (stepN 8 (BitVec.ofNat 32 i))) else .int .u32 0) := by
  induction k with
  | zero => rw [tabK_zero]; unfold zero256; simp [hi]
  | succ k ih =>
    rw [tabK_succ, Array.getElem?_setIfInBounds]
    by_cases hk : k = i
    · subst hk; rw [if_pos rfl, if_pos (by rw [tabK_size]; exact hi), if_pos (by omega)]
    · rw [if_neg hk, ih]
      by_cases h : i < k
      · rw [if_pos h, if_pos (by omega)]
      · rw [if_neg h, if_neg (by omega)]
theorem tabK_one (k : Nat) : oneCells (tabK k) = true := by
  unfold oneCells
  rw [Array.all_eq_true]
  intro i hi
  have h1 : i < 256 := by rw [tabK_size] at hi; exact hi
  have h := tabK_get k i h1
  rw [Array.getElem?_eq_getElem hi] at h
  injection h with h
  rw [h]
  split <;> rfl
def tabA : Array Value := tabK 256
theorem tabA_def : tabA = tabK 256 := rfl
theorem tabA_size : tabA.size = 256 := tabK_size _
theorem tabA_one : oneCells tabA = true := tabK_one _
theorem tabA_get (x : BitVec 8) : tabA[x.toNat]? = some (.int .u32 (W32 (stepN 8 (x.setWidth 32)))) := by
  have hx := x.isLt
  unfold tabA
  rw [tabK_get 256 x.toNat hx, if_pos hx]
  have e : BitVec.ofNat 32 x.toNat = x.setWidth 32 := by apply BitVec.eq_of_toNat_eq; simp
  rw [e]
theorem run_alloc_tab (w : World) (o : Value) : (alRow 132 true o).run Try.prog w = .ok (.pointer (some ⟨w.heap.size, 0, none⟩)) (w.alloc (.cells zero256 132)) := by
  unfold zero256
  exact run_alRow (z := .agg (Array.replicate 256 (.int .u32 0))) (by kernel_rfl) w o
theorem zero256_size : zero256.size = 256 := by unfold zero256; simp
theorem store_tab (b off : Nat) (cs : Array Value) (w : World) (hs : cs.size = 256) (h1 : oneCells cs = true) :
    (stRow 132 (.pointer (some ⟨b, off, none⟩)) (.agg cs)).run Try.prog w = onPut ((row? w b off 256).isSome && free? w b) (.ok () (putRow w b off cs)) ((stRow' 132 (.pointer (some ⟨b, off, none⟩)) (.agg cs)).run Try.prog w) :=
  run_stRow (P := Try.prog) (t := 132) (n := 256) (by kernel_rfl) b off cs w hs h1
theorem load_tab (b off : Nat) (w : World) : (ldRow 132 (.pointer (some ⟨b, off, none⟩))).run Try.prog w = onRow (row? w b off 256) w ((ldRow' 132 (.pointer (some ⟨b, off, none⟩))).run Try.prog w) :=
  run_ldRow (P := Try.prog) (t := 132) (n := 256) Try.underlying132 rfl (by kernel_rfl) b off w
theorem ld_tab (v : Value) : Instr.loadAt 132 v = ldRow 132 v := ldRow_eq _ _
theorem st_tab (a v : Value) : Instr.storeAt 132 a v = stRow 132 a v := stRow_eq _ _ _
theorem al_tab (h : Bool) (v : Value) : Instr.alloc 132 h v = alRow 132 h v := alRow_eq _ _ _
theorem row_tab (k : Nat) : rowOf (tabK k) 0 256 = some (tabK k) := rowOf_full _ _ (tabK_size k)
theorem row_tabA : rowOf tabA 0 256 = some tabA := rowOf_full _ _ tabA_size
theorem row_zero256 : rowOf zero256 0 256 = some zero256 := rowOf_full _ _ zero256_size
theorem splice_zero_tab (k : Nat) : splice zero256 0 (tabK k) = tabK k := splice_full _ _ (by rw [tabK_size, zero256_size])
theorem splice_zero_tabA : splice zero256 0 tabA = tabA := splice_full _ _ (by rw [tabA_size, zero256_size])
theorem W32_small (k : Nat) : IntKind.u32.wrap (k : Int) = W32 (BitVec.ofNat 32 k) := by
  rw [IntKind.wrap_u32', W32_def, BitVec.toNat_ofNat]; omega
attribute [local irreducible] tabK tabA
attribute [local go_sem ↓] ld_tab st_tab al_tab
attribute [local go_sem] run_alloc_tab store_tab load_tab
attribute [local go_sem] row_tab row_tabA row_zero256 splice_zero_tab splice_zero_tabA tabK_size tabK_one tabA_size tabA_one

set_option maxRecDepth 100000 in
set_option maxHeartbeats 1000000 in
/-- the program's table -/
theorem steps_any (w : World) : Calls Try.prog 92 #[] w (Is w (.agg tabA)) := by
  go_enter Try.func92, Try.ntmps92
  go_wp2
  go_loopw [5] (fun i wr => ∃ k : Nat, k ≤ 256 ∧ i = .int .i64 k ∧ wr = (w.alloc (.cells zero256 132)).alloc (.cells (tabK k) 132)) (fun i _ => 256 - (intOf i).toNat)
  case atStart => exact ⟨0, by omega, rfl, by rw [tabK_zero]⟩
  case round =>
    obtain ⟨k, hk, rfl, rfl⟩ := hrel
    by_cases hlt : k < 256
    · have hw := W32_small k
      have hg := tabK_get k k hlt
      rw [if_neg (by omega)] at hg
      have hk0 : (0 : Int) ≤ (k : Int) := by omega
      have hk1 : (k : Int) < 256 := by omega
      go_wp2
      have Hg := Lib.hid hg
      clear hg hw
      go_loop [3, 10] (fun x i => ∃ j : Nat, j ≤ 8 ∧ i = .int .i64 j ∧ x = .int .u32 (W32 (stepN j (BitVec.ofNat 32 k)))) (fun _ i => 8 - (intOf i).toNat)
      case atStart => exact ⟨0, by omega, rfl, rfl⟩
      case round =>
        obtain ⟨j, hj, rfl, rfl⟩ := hrel
        by_cases hlj : j < 8
        · cases hb : lsb (stepN j (BitVec.ofNat 32 k))
          · have hs := Lib.hid (stepN_skip j _ hb)
            go_wp2
            go_round
            case rel => exact ⟨j + 1, by omega, by go_num, by rw [hs.out]⟩
            case measure => simp [intOf]; omega
          · have hs := Lib.hid (stepN_step j _ hb)
            go_wp2
            go_round
            case rel => exact ⟨j + 1, by omega, by go_num, by rw [hs.out]⟩
            case measure => simp [intOf]; omega
        · obtain rfl : j = 8 := by omega
          have hg := Hg.out
          go_wp2
          go_roundw
          case rel => exact ⟨k + 1, by omega, by go_num, by rw [tabK_succ]⟩
          case measure => simp [intOf]; omega
    · obtain rfl : k = 256 := by omega
      go_wp2
      exact bodyPost_ret (results_1 rfl (res_cell (cs := tabK 256) (n := 256) Try.underlying132 rfl (by kernel_rfl) rfl (by go_simp))) rfl ⟨by rw [tabA_def], ((Ext.refl w).alloc _).alloc _⟩

theorem tab_index (x : BitVec 32) (c : BitVec 8) : tabA[bn (x.setWidth 8 ^^^ c)]? = some (.int .u32 (W32 (stepN 8 ((x.setWidth 8 ^^^ c).setWidth 32)))) := by
  rw [bn_def]; exact tabA_get _

set_option maxRecDepth 100000 in
set_option maxHeartbeats 1000000 in
/-- the program's More -/
theorem more_any (r : BitVec 32) (v : Value) (bs : List (BitVec 8)) (w : World) (h : Sl be 1 w v bs) :
    Calls Try.prog 83 #[.int .u32 (W32 r), v] w (Is w (.int .u32 (W32 (moreL r bs)))) := by
  obtain ⟨A, cap, rfl, h0, h1, hA⟩ := h
  unfold maxLen at h1
  go_enter Try.func83, Try.ntmps83
  go_wp2_with (go_at_call 92; refine (steps_any _).mono ?_; rintro e w1 ⟨rfl, he1⟩)
  have hA1 := hA.ext he1
  have H1 := Lib.hid he1
  clear hA he1
  go_loop [6, 14] (fun x i => ∃ k : Nat, k ≤ bs.length ∧ i = .int .i64 k ∧ x = .int .u32 (W32 (runB (~~~ r) (bs.take k)))) (fun _ i => bs.length - (intOf i).toNat)
  case atStart => exact ⟨0, by omega, rfl, rfl⟩
  case round =>
    obtain ⟨k, hk, rfl, rfl⟩ := hrel
    by_cases hlt : k < bs.length
    · obtain ⟨b, off, rfl, hb, hc⟩ := hA1 (by omega)
      have hc1 := SlAt.byte' hc hlt
      have hs := Lib.hid ((runB_take (~~~ r) bs k hlt).trans (table_step _ _))
      have ht := tab_index (runB (~~~ r) (bs.take k)) bs[k]
      clear hc hA1
      go_wp2
      go_round
      case rel => exact ⟨k + 1, by omega, by go_num, by rw [hs.out, BitVec.setWidth_xor]⟩
      case measure => simp [intOf]; omega
    · obtain rfl : k = bs.length := by omega
      go_wp2
      go_ret
      exact ⟨by simp [moreL], H1.out.alloc _⟩

set_option maxHeartbeats 400000 in
/-- the program's Sum -/
theorem sum_any (v : Value) (bs : List (BitVec 8)) (w : World) (h : Sl be 1 w v bs) :
    Calls Try.prog 58 #[v] w (Is w (.int .u32 (W32 (sumL bs)))) := by
  have h0 := Lib.hid (show (0 : Int) = W32 0#32 by rw [W32_def]; rfl)
  go_enter Try.func58, Try.ntmps58
  go_wp2_with fail
  rw [h0.out]
  refine (more_any _ _ _ _ h).mono ?_
  rintro e w1 ⟨rfl, he1⟩
  go_wp2
  go_ret
  exact ⟨rfl, he1⟩

/-- n bytes 0, as cells -/
@[irreducible] def zb (n : Nat) : Array Value := Array.replicate n (.int .u8 0)
end Go.Proofs.Ytcmdhpinelnclaa

namespace Go.Proofs.Ytcmdhpinelnclaa
open Go Go.RowKit
set_option linter.unusedVariables false
set_option linter.unusedSimpArgs false
set_option maxRecDepth 100000

theorem hr_bytes (U : Uns) (w : World) (xs : List (BitVec 8)) {c : List Value} : Rdu U w 1 (xs.map byteA) B0 H0 c ↔ c = flat be xs := by
  rw [flat_cells (arr := be) (cell := fun n => Value.int .u8 (B8 n)) (fun _ => rfl)]
  exact rdu_cells (cell := fun n => .int .u8 (B8 n)) (fun _ => rfl) (fun _ => rfl) xs
/-- a row that a call has laid, as plain data -/
theorem own_plain {U : Uns} {w w' : World} {u : Value} {ty : TypeId} {xs : List (BitVec 8)} (h : Own w.heap.size ty be 1 w' u xs) : Rdv (fun b o => b < w.heap.size ∧ U b o) w' B0 H0 (bytesA xs) u := by
  obtain ⟨hl, ho⟩ := h
  rw [bytesA, Rdv_not (by simp)]
  refine ⟨[_], ?_, rfl⟩
  simp only [Rd, List.length_map]
  rcases ho with ⟨rfl, h0⟩ | ⟨b, cap, cur, rfl, hb, hw, hc, hm, hs, ht⟩
  · have hy : xs = [] := List.eq_nil_of_length_eq_zero h0
    subst hy
    exact ⟨none, 0, rfl, Nat.le_refl _, Nat.zero_le _, fun h => absurd h (Nat.lt_irrefl _), fun t ht => by cases ht⟩
  · refine ⟨_, cap, rfl, hc, hm, fun _ => ⟨b, 0, flat be xs, rfl, ?_, fun o _ _ hu => absurd hu.1 (by omega), (hr_bytes _ _ _).2 rfl⟩, fun t ht => by cases ht⟩
    have hcap : xs.length * 1 ≤ cur.size := by rw [hs]; exact Nat.mul_le_mul_right _ hc
    rw [row_block hw]
    unfold rowOf
    rw [if_pos (by simpa using hcap)]
    congr 1
    apply Array.ext'
    rw [← ht]
    simp
/-- an own row handed in goes on in a new block, longer -/
theorem Mem.ownGrow {E : Env} {B : Blk} {w w' : World} {xs ys : List (BitVec 8)} (m : Mem E B (hL [(1000, .own 5 1 (xs.map byteA))]) w) (e : Ext w w') {v : Value} (hlt : xs.length < ys.length) (ho : Own w.heap.size 5 be 1 w' v ys) :
    ∃ B', Mem E B' (hL [(1000, .own 5 1 (ys.map byteA))]) w' ∧ Rdv (unst E B' (hL [(1000, .own 5 1 (ys.map byteA))])) w' B' (hL [(1000, .own 5 1 (ys.map byteA))]) (.own 1000 1 ys.length .row) v := by
  obtain ⟨hl, ho⟩ := ho
  rcases ho with ⟨rfl, h0⟩ | ⟨b, cap, cur, rfl, hb, hw, hc, hm, hs, ht⟩
  · omega
  have hg : hL [(1000, .own 5 1 (xs.map byteA))] 1000 = some (.own 5 1 (xs.map byteA)) := rfl
  have hg2 : hL [(1000, .own 5 1 (ys.map byteA))] 1000 = some (.own 5 1 (ys.map byteA)) := rfl
  have oth : ∀ (zs : List (BitVec 8)) g, g ≠ 1000 → hL [(1000, .own 5 1 (zs.map byteA))] g = none := fun zs g hne => by
    show look g _ = none
    simp only [look]
    have : Nat.beq 1000 g = false := by
      cases hb : Nat.beq 1000 g
      · rfl
      · exact absurd (Nat.eq_of_beq_eq_true hb).symm hne
    rw [this]; rfl
  obtain ⟨_, hT, _⟩ := m.box 1000 _ hg
  rw [List.length_map] at hT
  have hpre : ∀ o, o < (ys.map byteA).length * 1 → cur[o]? = (flat be ys)[o]? := fun o ho => by
    rw [List.length_map] at ho
    rw [ht.symm]
    simp [List.getElem?_take]
    omega
  refine ⟨fun g => if g = 1000 then some b else none, ⟨fun g bx h => ?_, fun g h => ?_, fun g g' b' h1 h2 h3 h4 => ?_, m.left.ext e, fun g h => ?_⟩, own_i ⟨5, ys.map byteA, hg2, by rw [List.length_map]; exact Nat.le_refl _, rfl, fun _ => ⟨fun hn => by simp at hn, fun b' hb' => ?_⟩⟩⟩
  · by_cases c : g = 1000
    · subst c
      rw [hg2] at h; injection h with h; subst h
      refine ⟨by omega, ?_, .inr ⟨b, cur, cap, flat be ys, by simp, hw, hs, by rw [List.length_map]; exact hc, hm, hpre, (hr_bytes _ _ _).2 rfl, .inl (Nat.le_trans m.left.size hb)⟩⟩
      intro k0 b0 he
      obtain ⟨q1, q2⟩ := hT k0 b0 he
      rw [List.length_map]
      exact ⟨by omega, fun e' => by omega⟩
    · rw [oth _ g c] at h; cases h
  · by_cases c : g = 1000
    · subst c; rw [hg2] at h; cases h
    · simp [c]
  · have c : g = 1000 := Classical.byContradiction fun c => by rw [oth _ g c] at h1; cases h1
    have c' : g' = 1000 := Classical.byContradiction fun c => by rw [oth _ g' c] at h2; cases h2
    rw [c, c']
  · by_cases c : g = 1000
    · subst c; rw [hg2] at h; cases h
    · exact m.keep g (oth _ g c)
  · simp at hb'
    subst hb'
    exact ⟨cur, hw, cap, rfl, hc, hm, by simpa using hs⟩
theorem c_put (xs : List (BitVec 8)) (n : BitVec 64) (wd : Nat) (hx : xs.length ≤ 100000000000000) (h1 : 1 ≤ wd) (h8 : wd ≤ 8) :
    CFn Try.prog 57 [.own 1000 1 xs.length .row, u64A n, intA (wd : Int)] [(1000, .own 5 1 (xs.map byteA))] (.own 1000 1 (xs ++ leBytes n wd).length .row) [(1000, .own 5 1 ((xs ++ leBytes n wd).map byteA))] := fun E B w vs _ hdf m hvs => by
  obtain ⟨v1, us, rfl, q1, hvs⟩ := rdp_one hvs
  obtain ⟨v2, us, rfl, q2, hvs⟩ := rdp_one hvs
  obtain ⟨v3, us, rfl, q3, hvs⟩ := rdp_one hvs
  obtain rfl := rdp_nil hvs
  have hsl := m.ownSl be_ok hr_bytes (g := 1000) rfl q1 rfl
  rw [u64_arg q2, int_arg q3]
  refine (put_any v1 xs n wd w hsl hx h1 h8).mono ?_
  rintro e w' ⟨u, rfl, ho, he⟩
  obtain ⟨B', k1, k2⟩ := m.ownGrow he (by rw [List.length_append, leBytes_length]; omega) ho
  exact ⟨u, B', rfl, k1, k2⟩
theorem c_refput (xs : List (BitVec 8)) (n : BitVec 64) (wd : Nat) (hx : xs.length ≤ 100000000000000) (h1 : 1 ≤ wd) (h8 : wd ≤ 8) :
    CFn Try.prog 43 [.own 1000 1 xs.length .row, u64A n, intA (wd : Int)] [(1000, .own 5 1 (xs.map byteA))] (.own 1000 1 (xs ++ leBytes n wd).length .row) [(1000, .own 5 1 ((xs ++ leBytes n wd).map byteA))] := fun E B w vs _ hdf m hvs => by
  obtain ⟨v1, us, rfl, q1, hvs⟩ := rdp_one hvs
  obtain ⟨v2, us, rfl, q2, hvs⟩ := rdp_one hvs
  obtain ⟨v3, us, rfl, q3, hvs⟩ := rdp_one hvs
  obtain rfl := rdp_nil hvs
  have hsl := m.ownSl be_ok hr_bytes (g := 1000) rfl q1 rfl
  rw [u64_arg q2, int_arg q3]
  refine (refput_any v1 xs n wd w hsl hx h1 h8).mono ?_
  rintro e w' ⟨u, rfl, ho, he⟩
  obtain ⟨B', k1, k2⟩ := m.ownGrow he (by rw [List.length_append, leBytes_length]; omega) ho
  exact ⟨u, B', rfl, k1, k2⟩
theorem a_putnil (n : BitVec 64) (wd : Nat) (h1 : 1 ≤ wd) (h8 : wd ≤ 8) : AFn Try.prog 57 [.v (.slice none 0 0), u64A n, intA (wd : Int)] (bytesA (leBytes n wd)) := fun U w vs h => by
  obtain ⟨v1, us, rfl, q1, h⟩ := rdp_one h
  obtain ⟨v2, us, rfl, q2, h⟩ := rdp_one h
  obtain ⟨v3, us, rfl, q3, h⟩ := rdp_one h
  obtain rfl := rdp_nil h
  rw [u64_arg q2, int_arg q3, (Rdv_v.1 q1).2]
  refine (put_any _ [] n wd w (Sl.nil _ _ _) (by simp) h1 h8).mono ?_
  rintro e w' ⟨u, rfl, ho, he⟩
  exact ⟨u, rfl, own_plain ho, he⟩
theorem a_refputnil (n : BitVec 64) (wd : Nat) (h1 : 1 ≤ wd) (h8 : wd ≤ 8) : AFn Try.prog 43 [.v (.slice none 0 0), u64A n, intA (wd : Int)] (bytesA (leBytes n wd)) := fun U w vs h => by
  obtain ⟨v1, us, rfl, q1, h⟩ := rdp_one h
  obtain ⟨v2, us, rfl, q2, h⟩ := rdp_one h
  obtain ⟨v3, us, rfl, q3, h⟩ := rdp_one h
  obtain rfl := rdp_nil h
  rw [u64_arg q2, int_arg q3, (Rdv_v.1 q1).2]
  refine (refput_any _ [] n wd w (Sl.nil _ _ _) (by simp) h1 h8).mono ?_
  rintro e w' ⟨u, rfl, ho, he⟩
  exact ⟨u, rfl, own_plain ho, he⟩
def u32A (x : BitVec 32) : AV := .v (.int .u32 (W32 x))
theorem c_sum (xs : List (BitVec 8)) : CFn Try.prog 58 [.own 1000 1 xs.length .row] [(1000, .own 5 1 (xs.map byteA))] (u32A (sumL xs)) [(1000, .own 5 1 (xs.map byteA))] := fun E B w vs _ hdf m hvs => by
  obtain ⟨v1, us, rfl, q1, hvs⟩ := rdp_one hvs
  obtain rfl := rdp_nil hvs
  have hsl := m.ownSl be_ok hr_bytes (g := 1000) rfl q1 rfl
  refine (sum_any v1 xs w hsl).mono ?_
  rintro e w' ⟨rfl, he⟩
  exact ⟨_, B, rfl, (m.ext he).1, Rdv_v.2 ⟨rfl, rfl⟩⟩
theorem c_refsum (xs : List (BitVec 8)) : CFn Try.prog 37 [.own 1000 1 xs.length .row] [(1000, .own 5 1 (xs.map byteA))] (u32A (sumL xs)) [(1000, .own 5 1 (xs.map byteA))] := fun E B w vs _ hdf m hvs => by
  obtain ⟨v1, us, rfl, q1, hvs⟩ := rdp_one hvs
  obtain rfl := rdp_nil hvs
  have hsl := m.ownSl be_ok hr_bytes (g := 1000) rfl q1 rfl
  refine (refsum_any v1 xs w hsl).mono ?_
  rintro e w' ⟨rfl, rfl⟩
  exact ⟨_, B, rfl, m, Rdv_v.2 ⟨rfl, rfl⟩⟩
theorem a_may (n : Int) : AFn Try.prog 82 [intA n] (boolA (decide (1 ≤ n ∧ n ≤ 8))) := fun U w vs h => by
  obtain ⟨v1, us, rfl, q1, h⟩ := rdp_one h
  obtain rfl := rdp_nil h
  rw [int_arg q1]
  refine (may_any n w).mono ?_
  rintro e w' ⟨rfl, rfl⟩
  exact ⟨_, rfl, Rdv_v.2 ⟨rfl, rfl⟩, Ext.refl _⟩
/-- the number at a place, and whether there is one -/
def numAt (xs : List (BitVec 8)) (at_ wd : Nat) : BitVec 64 := if at_ + wd ≤ xs.length then leNum (seg xs at_ wd) else 0#64
theorem numAt_yes {xs : List (BitVec 8)} {at_ wd : Nat} (h : at_ + wd ≤ xs.length) : numAt xs at_ wd = leNum (seg xs at_ wd) := by unfold numAt; rw [if_pos h]
theorem numAt_no {xs : List (BitVec 8)} {at_ wd : Nat} (h : ¬ at_ + wd ≤ xs.length) : numAt xs at_ wd = 0#64 := by unfold numAt; rw [if_neg h]
theorem a_num_yes (xs : List (BitVec 8)) (at_ wd : Nat) (h1 : 1 ≤ wd) (h8 : wd ≤ 8) (h : at_ + wd ≤ xs.length) : AFn Try.prog 84 [bytesA xs, intA (at_ : Nat), intA (wd : Nat)] (.tup [u64A (numAt xs at_ wd), boolA (decide (at_ + wd ≤ xs.length))]) := fun U w vs hr => by
  obtain ⟨v1, us, rfl, q1, hr⟩ := rdp_one hr
  obtain ⟨v2, us, rfl, q2, hr⟩ := rdp_one hr
  obtain ⟨v3, us, rfl, q3, hr⟩ := rdp_one hr
  obtain rfl := rdp_nil hr
  rw [int_arg q2, int_arg q3]
  refine (num_any v1 xs at_ wd w (sl_bytes_of q1) h1 h8 h).mono ?_
  rintro e w' ⟨rfl, rfl⟩
  refine ⟨_, rfl, ?_, Ext.refl _⟩
  rw [Rdv_tup, numAt_yes h, decide_eq_true h]
  exact ⟨_, rfl, rdp_cons rfl (Rdv_v.2 ⟨rfl, rfl⟩) (rdp_cons rfl (Rdv_v.2 ⟨rfl, rfl⟩) rdp_nil')⟩
attribute [local irreducible] OpOK AWops AW CondB Go2 AFn thenA inBlockA noGotoA orderOk wantedA
set_option maxRecDepth 100000 in
set_option maxHeartbeats 4000000 in
theorem a_num (xs : List (BitVec 8)) (at_ wd : Nat) (h1 : 1 ≤ wd) (h8 : wd ≤ 8) (hx : xs.length ≤ 1000000000000) (ha : at_ ≤ 1000000000000) : AFn Try.prog 84 [bytesA xs, intA (at_ : Nat), intA (wd : Nat)] (.tup [u64A (numAt xs at_ wd), boolA (decide (at_ + wd ≤ xs.length))]) := by
  by_cases h : at_ + wd ≤ xs.length
  · exact a_num_yes xs at_ wd h1 h8 h
  · rw [numAt_no h, decide_eq_false h]
    have c0 := a_may (wd : Nat)
    rw [decide_eq_true ⟨by omega, by omega⟩] at c0
    have e0 : u64A 0#64 = .v (.int .u64 0) := by unfold u64A; rw [D64_zero]
    rw [e0]
    refine AFn_intro Try.func84 rfl Try.ntmps84 rfl (by simp) [_, _] rfl fun E hE => ?_
    have hnt : (!true) = false := rfl
    have hnf : (!false) = true := rfl
    have d0 := acall Try.func82 (c0) (by decide +kernel) (by decide +kernel)
    have g1 : ¬ (at_ : Int) < 0 := by omega
    have g2 : (xs.length : Int) - (wd : Int) < (at_ : Int) := by omega
    refine wL ?_
    exact fin ⟨res_of rfl rfl rfl, res_of rfl rfl rfl, trivial⟩
end Go.Proofs.Ytcmdhpinelnclaa

namespace Go.Proofs.Ytcmdhpinelnclaa
open Go Go.RowKit
set_option linter.unusedVariables false
set_option linter.unusedSimpArgs false
set_option maxRecDepth 100000
set_option linter.unusedSectionVars false

section
variable {E : Env} {nt : Nat} {ops : Array Oper} {T : Nat → Option AV} {H : Hp} {d : Option Nat} {ty : TypeId} {pos : String} {af : Array Edge} {gd : Option (Nat × Bool)}
theorem ok_nilc {x : Operand} {g off : Nat} {p : List Nat} (hx : evalO T x = some (.ptr g off p)) (hd : dOk nt d = true) : OpOK Try.prog E nt ops ⟨d, .nilCheck x, ty, pos, af, gd⟩ T H [] ⟨.ptr g off p, []⟩ :=
  ok_val hd fun B T' H' a w r ht hh => by
    have h0 := r.eval ((ht x (by simp [Op.operands])).trans hx)
    have h := Rdv_one (by simp) h0 rfl
    simp only [Rd] at h
    obtain ⟨_, b, _, h2⟩ := h
    injection h2 with h2
    exact ⟨a.eval x, by simp [execOp, h2], h0⟩
/-- a slice of some elements is not nil -/
theorem ok_eqnil {t t' e : TypeId} {es bytes : Nat} {ea : Bool} {x y : Operand} {tok : Option Nat} {n : Nat} {xs : List AV} (hs : tabT.ti t = some (.sl e es bytes ea)) (hd : dOk nt d = true) (hx : evalO T x = some (.sl tok n xs)) (hy : evalO T y = some (.v (.slice none 0 0))) (h0 : 0 < xs.length) : OpOK Try.prog E nt ops ⟨d, .binOp .eql t x y t', ty, pos, af, gd⟩ T H [] ⟨boolA false, []⟩ :=
  ok_val hd fun B T' H' a w r ht hh => by
    have h := Rdv_one (by simp) (r.eval ((ht x (by simp [Op.operands])).trans hx)) rfl
    have h2 := r.evalv ((ht y (by simp [Op.operands])).trans hy)
    simp only [Rd] at h
    obtain ⟨A, cap, h1, k2, k3, k4, _⟩ := h
    injection h1 with h1
    obtain ⟨b, off, c, rfl, _⟩ := k4 h0
    have hu := (tabT.ok t _ hs).2.1
    refine ⟨.bool false, ?_, by rw [boolA, Rdv_v]; exact ⟨rfl, rfl⟩⟩
    have hr := Lib.run_eql_slice_nil (P := Try.prog) w t e (some ⟨b, off, none⟩) xs.length cap 0 0 hu
    simp [execOp, h1, h2, eqGuard, hr]
theorem o_cv32 {s t : TypeId} {x : Operand} {n : BitVec 32} (hs : ∃ u, Try.prog.underlying s = some u) (ht : Try.prog.underlying t = some (.int .u64)) (hd : dOk nt d = true) (hx : evalO T x = some (u32A n)) : OpOK Try.prog E nt ops ⟨d, .convert s t x, ty, pos, af, gd⟩ T H [] ⟨u64A (n.setWidth 64), []⟩ :=
  ok_conv_i hs ht hd hx (by rw [wrap_u64', D64_def, W32_def, BitVec.toNat_setWidth]; have := n.isLt; omega)
/-- a number as an int -/
theorem o_cvk {s t : TypeId} {x : Operand} {n : BitVec 64} (hs : ∃ u, Try.prog.underlying s = some u) (ht : Try.prog.underlying t = some (.int .i64)) (hd : dOk nt d = true) (hx : evalO T x = some (u64A n)) : OpOK Try.prog E nt ops ⟨d, .convert s t x, ty, pos, af, gd⟩ T H [] ⟨intA n.toInt, []⟩ :=
  ok_conv_i hs ht hd hx (by rw [IntKind.wrap_i64, D64_def, BitVec.toInt_eq_toNat_cond]; have := n.isLt; split <;> omega)
/-- a byte as an int -/
theorem o_cv8 {s t : TypeId} {x : Operand} {n : BitVec 8} (hs : ∃ u, Try.prog.underlying s = some u) (ht : Try.prog.underlying t = some (.int .i64)) (hd : dOk nt d = true) (hx : evalO T x = some (byteA n)) : OpOK Try.prog E nt ops ⟨d, .convert s t x, ty, pos, af, gd⟩ T H [] ⟨intA (n.toNat : Nat), []⟩ :=
  ok_conv_i hs ht hd hx (by rw [IntKind.wrap_i64, B8_def]; have := n.isLt; omega)
theorem o_xorb {t t' : TypeId} {x y : Operand} {a b : BitVec 8} (hd : dOk nt d = true) (hx : evalO T x = some (byteA a)) (hy : evalO T y = some (byteA b)) : OpOK Try.prog E nt ops ⟨d, .binOp .xor t x y t', ty, pos, af, gd⟩ T H [] ⟨byteA (a ^^^ b), []⟩ :=
  ok_bin hd hx hy (fun w => by have := B8_xor a b; unfold bits at this; simp at this; simp [eqGuard, binOp, Op.intBits]; exact this) rfl
/-! ### rows of bytes -/
theorem ob_len {x : Operand} {t e e' : TypeId} {es bytes : Nat} {ea : Bool} {g n len : Nat} {f : BitVec 8 → AV} {xs : List (BitVec 8)} (hs : tabT.ti t = some (.sl e es bytes ea)) (hd : dOk nt d = true) (hx : evalO T x = some (.own g n len .row)) (hg : H g = some (.own e' n (xs.map f))) (hl : len = xs.length) :
    OpOK Try.prog E nt ops ⟨d, .call { callee := .builtin .len, args := #[x], argTypes := #[t] }, ty, pos, af, gd⟩ T H [g] ⟨.v (.int .i64 (len : Nat)), []⟩ := ok_len_own hs hd hx hg (by simpa using hl)
theorem ob_app {s x : Operand} {t tx e : TypeId} {es bytes : Nat} {ea : Bool} {g n : Nat} {f : BitVec 8 → AV} {xs zs : List (BitVec 8)} {src : AV} (hd : dOk nt d = true) (hs : tabT.ti t = some (.sl e es bytes ea)) (hx : evalO T s = some (.own g es n .row)) (hg : H g = some (.own e es (xs.map f)))
    (hy : evalO T x = some src) (hsrc : SrcOf Try.prog tx es src (zs.map f)) (hl : n = xs.length) (hlen : (xs.length + zs.length) * bytes ≤ 140737488355328) (hlen2 : xs.length + zs.length ≤ 9223372036854775807) :
    OpOK Try.prog E nt ops ⟨d, .call { callee := .builtin .append, args := #[s, x], argTypes := #[t, tx] }, ty, pos, af, gd⟩ T H [g] ⟨.own g es (xs ++ zs).length .row, [(g, .own e es ((xs ++ zs).map f))]⟩ := by
  subst hl
  exact oo_app hd hs hx hg hy hsrc hlen hlen2
theorem ob_zeros {s x : Operand} {t tx e : TypeId} {es bytes : Nat} {ea : Bool} {k kn : IntKind} {g n : Nat} {mi : Int} {f : BitVec 8 → AV} {z : BitVec 8} {xs : List (BitVec 8)} (htx : Try.prog.underlying tx = some (.int kn)) (hd : dOk nt d = true) (hs : tabT.ti t = some (.sl e (es + 1) bytes ea)) (hx : evalO T s = some (.own g (es + 1) n .row)) (hg : H g = some (.own e (es + 1) (xs.map f)))
    (hy : evalO T x = some (.v (.int k mi))) (hz : zeroT e = some (f z)) (hmi : 0 ≤ mi) (hl : n = xs.length) (hlen : (n + mi.toNat) * bytes ≤ 140737488355328) (hlen2 : n + mi.toNat ≤ 4611686018427387904) :
    OpOK Try.prog E nt ops ⟨d, .call { callee := .builtin .append, args := #[s, x], argTypes := #[t, tx] }, ty, pos, af, gd⟩ T H [g] ⟨.own g (es + 1) (xs ++ List.replicate mi.toNat z).length .row, [(g, .own e (es + 1) ((xs ++ List.replicate mi.toNat z).map f))]⟩ := by
  have := ok_zeros_own (E := E) (ops := ops) (H := H) (ty := ty) (pos := pos) (af := af) (gd := gd) (len' := (xs ++ List.replicate mi.toNat z).length) (m := mi.toNat) hd hs hz hx hg (by simpa using hl) htx (hy.trans (by rw [Int.toNat_of_nonneg hmi])) (by simp [hl]) hlen hlen2
  rwa [List.map_append, List.map_replicate]
theorem ob_idx {x ix : Operand} {t e : TypeId} {es bytes : Nat} {ea : Bool} {g len : Nat} {f : BitVec 8 → AV} {xs : List (BitVec 8)} {k : IntKind} {n : Int} {i : Nat} (hd : dOk nt d = true) (hs : tabT.ti t = some (.sl e es bytes ea)) (hx : evalO T x = some (.own g es len .row)) (hg : H g = some (.own e es (xs.map f))) (hi : evalO T ix = some (.v (.int k n))) (hn : natOf n = some i)
    (hl : len = xs.length) (hlt : i < len) : OpOK Try.prog E nt ops ⟨d, .indexAddr t x ix, ty, pos, af, gd⟩ T H [g] ⟨.own g es len (.at (i * es) [i]), []⟩ := by
  subst hl
  exact oo_idx hd hs hx hg hi hn hlt
theorem ob_ld {x : Operand} {t e : TypeId} {g len i : Nat} {f : BitVec 8 → AV} {xs : List (BitVec 8)} (hd : dOk nt d = true) (hx : evalO T x = some (.own g 1 len (.at (i * 1) [i]))) (hg : H g = some (.own e 1 (xs.map f))) (hl : len = xs.length) (hlt : i < xs.length) (hs : tabT.sa t = some (isAggA (f xs[i]), 1)) (h1 : sizeA (f xs[i]) = 1) :
    OpOK Try.prog E nt ops ⟨d, .load t x, ty, pos, af, gd⟩ T H [g] ⟨f xs[i], []⟩ := by
  subst hl
  exact oo_load hd hx hg (by omega) (by simp [subA, hlt]) (by simp [offA]) (by rw [h1]; exact hs)
theorem ob_st {x y : Operand} {t e : TypeId} {g len i : Nat} {b : BitVec 8} {f : BitVec 8 → AV} {xs : List (BitVec 8)} (hx : evalO T x = some (.own g 1 len (.at (i * 1) [i]))) (hy : evalO T y = some (f b)) (hg : H g = some (.own e 1 (xs.map f))) (hl : len = xs.length) (hlt : i < xs.length) (hs : tabT.sa t = some (isAggA (f b), 1)) (h1 : ∀ a, sizeA (f a) = 1) (hdt : dataA (f b) = true) (hnt : notTup (f b) = true) :
    OpOK Try.prog E nt ops ⟨none, .store t x y, ty, pos, af, gd⟩ T H [g] ⟨.tup [], [(g, .own e 1 ((xs.set i b).map f))]⟩ := by
  subst hl
  exact oo_store hx hy hg (by omega) (old := f xs[i]) (by simp [subA, hlt]) (by simp [offA]) (by simp [setA, hlt, hdt, List.map_set]) (by rw [h1]; exact hs) (by rw [h1, h1]) hnt
/-- the byte 0 stored -/
theorem ob_st0 {x y : Operand} {t e : TypeId} {g len i : Nat} {xs : List (BitVec 8)} (hx : evalO T x = some (.own g 1 len (.at (i * 1) [i]))) (hy : evalO T y = some (.v (.int .u8 0))) (hg : H g = some (.own e 1 (xs.map byteA))) (hl : len = xs.length) (hlt : i < xs.length) (hs : tabT.sa t = some (false, 1)) :
    OpOK Try.prog E nt ops ⟨none, .store t x y, ty, pos, af, gd⟩ T H [g] ⟨.tup [], [(g, .own e 1 ((xs.set i 0#8).map byteA))]⟩ :=
  ob_st (b := 0#8) hx (hy.trans (by unfold byteA; rw [B8_zero])) hg hl hlt hs (fun _ => rfl) rfl rfl
theorem ob_cutl {t e : TypeId} {es bytes : Nat} {ea : Bool} {x lo : Operand} {k : IntKind} {n : Int} {g len l : Nat} {f : BitVec 8 → AV} {xs : List (BitVec 8)} (hd : dOk nt d = true) (hs : tabT.ti t = some (.sl e es bytes ea)) (hx : evalO T x = some (.own g es len .row)) (hg : H g = some (.own e es (xs.map f))) (hlo : evalO T lo = some (.v (.int k n))) (hn : natOf n = some l) (hl : len = xs.length) (h1 : l < len) :
    OpOK Try.prog E nt ops ⟨d, .slice t x (some lo) none none, ty, pos, af, gd⟩ T H [g] ⟨.own g es len (.part l (len - l)), []⟩ := by
  have := natOf_eq hn; subst this
  exact ok_cut_own hd hs hx hg (by simpa using hl) (bnd_nat hlo) bnd_none h1 (Nat.le_refl _)
theorem ob_cutlh {t e : TypeId} {es bytes : Nat} {ea : Bool} {x lo hi : Operand} {k k' : IntKind} {n m : Int} {g len l h : Nat} {f : BitVec 8 → AV} {xs : List (BitVec 8)} (hd : dOk nt d = true) (hs : tabT.ti t = some (.sl e es bytes ea)) (hx : evalO T x = some (.own g es len .row)) (hg : H g = some (.own e es (xs.map f))) (hlo : evalO T lo = some (.v (.int k n))) (hn : natOf n = some l) (hhi : evalO T hi = some (.v (.int k' m))) (hm : natOf m = some h) (hl : len = xs.length) (h1 : l < h) (h2 : h ≤ len) :
    OpOK Try.prog E nt ops ⟨d, .slice t x (some lo) (some hi) none, ty, pos, af, gd⟩ T H [g] ⟨.own g es len (.part l (h - l)), []⟩ := by
  have := natOf_eq hn; subst this
  have := natOf_eq hm; subst this
  exact ok_cut_own hd hs hx hg (by simpa using hl) (bnd_nat hlo) (bnd_nat hhi) h1 h2
/-- over n elements from a place on, others -/
def put4 {α : Type} (xs : List α) (off : Nat) (ys : List α) : List α := xs.take off ++ (ys ++ xs.drop (off + ys.length))
theorem put4_len {α : Type} (xs : List α) (off : Nat) (ys : List α) (h : off + ys.length ≤ xs.length) : (put4 xs off ys).length = xs.length := by unfold put4; simp; omega
theorem ob_copy {x y : Operand} {t tx e : TypeId} {es bytes : Nat} {ea : Bool} {g len off l : Nat} {f : BitVec 8 → AV} {tok : Option Nat} {xs ys : List (BitVec 8)} (hd : dOk nt d = true) (hs : tabT.ti t = some (.sl e es bytes ea)) (hx : evalO T x = some (.own g es len (.part off l))) (hy : evalO T y = some (.sl tok es (ys.map f)))
    (hg : H g = some (.own e es (xs.map f))) (hl : len = xs.length) (hfit : off + ys.length ≤ len) (hyl : ys.length ≤ l) (h0 : 0 < len) :
    OpOK Try.prog E nt ops ⟨d, .call { callee := .builtin .copy, args := #[x, y], argTypes := #[t, tx] }, ty, pos, af, gd⟩ T H [g] ⟨.v (.int .i64 (ys.length : Nat)), [(g, .own e es ((put4 xs off ys).map f))]⟩ := by
  have := ok_copy_own (E := E) (ops := ops) (H := H) (ty := ty) (pos := pos) (af := af) (gd := gd) (tx := tx) hd hs hx hy srcn_sl hg (by simpa using hl) h0 (by simpa using hfit) (by simpa using hyl)
  rw [List.length_map] at this
  unfold put4
  rwa [List.map_append, List.map_append, List.map_take, List.map_drop]
theorem ob_clear {x : Operand} {t e : TypeId} {es bytes : Nat} {ea : Bool} {g len off l : Nat} {f : BitVec 8 → AV} {z : BitVec 8} {xs : List (BitVec 8)} (hs : tabT.ti t = some (.sl e (es + 1) bytes ea)) (hx : evalO T x = some (.own g (es + 1) len (.part off l))) (hg : H g = some (.own e (es + 1) (xs.map f))) (hz : zeroT e = some (f z)) (hl : len = xs.length) (h0 : 0 < l) (hfit : off + l ≤ len) :
    OpOK Try.prog E nt ops ⟨none, .call { callee := .builtin .clear, args := #[x], argTypes := #[t] }, ty, pos, af, gd⟩ T H [g] ⟨.tup [], [(g, .own e (es + 1) ((put4 xs off (List.replicate l z)).map f))]⟩ := by
  have := ok_clear_own (E := E) (nt := nt) (ops := ops) (H := H) (ty := ty) (pos := pos) (af := af) (gd := gd) hs hz hx hg (by simpa using hl) h0 hfit
  unfold put4
  rwa [List.map_append, List.map_append, List.map_take, List.map_drop, List.map_replicate, List.length_replicate]
theorem ob_make {t e : TypeId} {es bytes : Nat} {ea : Bool} {x y : Operand} {k k' : IntKind} {n : Nat} {f : BitVec 8 → AV} {z : BitVec 8} {g : Nat} {m m' : Int} (hd : dOk nt (some g) = true) (hs : tabT.ti t = some (.sl e (es + 1) bytes ea)) (hz : zeroT e = some (f z)) (hx : evalO T x = some (.v (.int k m))) (hy : evalO T y = some (.v (.int k' m'))) (hm : natOf m = some n) (hm' : natOf m' = some n) (hg : H g = none) (hb : bytes * n ≤ 140737488355328) (hn : n ≤ 9223372036854775807) :
    OpOK Try.prog E nt ops ⟨some g, .makeSlice t x y, ty, pos, af, gd⟩ T H [] ⟨.own g (es + 1) n .row, [(g, .own e (es + 1) ((List.replicate n z).map f))]⟩ := by
  have := natOf_eq hm; subst this
  have := natOf_eq hm'; subst this
  rw [List.map_replicate]
  exact ok_make_own hd hs hz hx hy hg hb hn
theorem byte0 : byteA 0#8 = .v (.int .u8 0) := by unfold byteA; rw [B8_zero]
theorem byte1 : byteA 1#8 = .v (.int .u8 1) := by unfold byteA; rw [B8_def]; rfl
theorem byte2 : byteA 2#8 = .v (.int .u8 2) := by unfold byteA; rw [B8_def]; rfl
/-- a row with its elements -/
theorem ob_bsl {t e : TypeId} {es bytes len : Nat} {ea : Bool} {l : List (Nat × Operand)} {vs : List (Nat × AV)} {f : BitVec 8 → AV} {z : BitVec 8} {g : Nat} (xs : List (BitVec 8)) (hd : dOk nt (some g) = true) (hs : tabT.ti t = some (.sl e (es + 1) bytes ea)) (hz : zeroT e = some (f z)) (hv : partsA T l = some vs) (ho : fillA vs (List.replicate (len + 1) (f z)) = some (xs.map f)) (hg : H g = none)
    (hdt : ∀ H', WkL H' (xs.map f) (xs.map f)) (hsz : (xs.map f).all (fun x => Nat.beq (sizeA x) (es + 1)) = true) (hlen : xs.length = len + 1) (hsmall : Nat.ble ((len + 1) * (es + 1)) 16777216 = true) :
    OpOK Try.prog E nt ops ⟨some g, .buildSlice t (len + 1) l.toArray, ty, pos, af, gd⟩ T H [] ⟨.own g (es + 1) xs.length .row, [(g, .own e (es + 1) (xs.map f))]⟩ := by
  rw [hlen]
  exact ok_bsl_own hd hs hz hv ho hg hdt hsz (by simpa using hlen) hsmall
/-- an array in a variable that stays, as bytes -/
theorem ob_cutf {t e : TypeId} {tn len : Nat} {ea : Bool} {x : Operand} {g off m : Nat} {p : List Nat} {y : AV} {f : BitVec 8 → AV} {xs : List (BitVec 8)} (hd : dOk nt d = true) (hs : tabT.ti t = some (.arr tn (len + 1) 1 ea e)) (hx : evalO T x = some (.ptr g off p)) (hg : H g = some (.froz y)) (hp : subA p y = some (.arr m 1 (xs.map f))) (ho : offA p y = off)
    (hxl : xs.length = len + 1) (hl : len < 9223372036854775807) :
    OpOK Try.prog E nt ops ⟨d, .slice t x none none none, ty, pos, af, gd⟩ T H [g] ⟨.sl none 1 (xs.map f), []⟩ := by
  have := ok_cut_arrf tabT (E := E) (ops := ops) (H := H) (ty := ty) (pos := pos) (af := af) (gd := gd) (hi := none) (h := len + 1) hd hs hx hg hp ho bnd_none (Nat.le_refl _) (by simpa using hxl) hl
  rwa [List.take_of_length_le (by rw [List.length_map]; omega)] at this
theorem ob_cutfh {t e : TypeId} {tn len : Nat} {ea : Bool} {x hi : Operand} {g off m : Nat} {p : List Nat} {y : AV} {k : IntKind} {n : Int} {f : BitVec 8 → AV} {xs : List (BitVec 8)} (hd : dOk nt d = true) (hs : tabT.ti t = some (.arr tn (len + 1) 1 ea e)) (hx : evalO T x = some (.ptr g off p)) (hg : H g = some (.froz y)) (hp : subA p y = some (.arr m 1 (xs.map f))) (ho : offA p y = off)
    (hhi : evalO T hi = some (.v (.int k n))) (hn : 0 ≤ n ∧ n ≤ (len : Int) + 1) (hxl : xs.length = len + 1) (hl : len < 9223372036854775807) :
    OpOK Try.prog E nt ops ⟨d, .slice t x none (some hi) none, ty, pos, af, gd⟩ T H [g] ⟨.sl none 1 ((xs.take n.toNat).map f), []⟩ := by
  have := ok_cut_arrf tabT (E := E) (ops := ops) (H := H) (ty := ty) (pos := pos) (af := af) (gd := gd) (hi := some hi) (h := n.toNat) hd hs hx hg hp ho (bnd_int _ hhi (by omega)) (by omega) (by simpa using hxl) hl
  rwa [← List.map_take] at this
end
section
variable {P : Program} {E : Env} {nt : Nat} {ops : Array Oper} {l : List Oper} {T : List (Nat × AV)} {H : List (Nat × Bx)} {rs : List Rec} {K : St → List Rec → Prop} {op : Op} {ty : TypeId} {pos : String} {af : Array Edge} {gd : Option (Nat × Bool)} {d : Nat} {rh : List Nat}
/-- a call with boxes, the names of what it reads and turns spelled out -/
theorem WcN (rh' wr' : List Nat) {v : AV} {wr : List (Nat × Bx)} (hok : OpOK P E nt ops ⟨some d, op, ty, pos, af, gd⟩ (St.t ⟨T, H⟩) (St.h ⟨T, H⟩) rh ⟨v, wr⟩) (h1 : rh = rh') (h2 : wr.map (·.1) = wr') (hw : wantedA ops ⟨some d, op, ty, pos, af, gd⟩ (St.t ⟨T, H⟩) = some true)
    (h : AWops P E nt ops l ⟨(d, v) :: T, wr ++ H⟩ (rs ++ [⟨rh', wr'⟩]) K) : AWops P E nt ops (⟨some d, op, ty, pos, af, gd⟩ :: l) ⟨T, H⟩ rs K := by
  subst h1 h2
  exact Wc hok hw h
end
section
variable {P : Program} {E : Env} {nt : Nat} {ops : Array Oper} {T : Nat → Option AV} {H : Hp} {d : Option Nat} {ty : TypeId} {pos : String} {af : Array Edge} {gd : Option (Nat × Bool)}
theorem updH_same {σ : Nat → Nat} {H : Hp} : ∀ {l : List (Nat × Bx)}, (∀ p ∈ l, H (σ p.1) = some (renB σ p.2)) → updH H (outW σ l) = H
  | [], _ => rfl
  | p :: l, h => by
    have ih := updH_same (σ := σ) (H := H) (l := l) (fun q hq => h q (List.mem_cons_of_mem _ hq))
    show upd (updH H (outW σ l)) (σ p.1) (renB σ p.2) = H
    rw [ih]
    exact upd_eta (h p List.mem_cons_self)
/-- a call that leaves the boxes as they are -/
theorem ok_rcall {f : FuncId} {fn : Func} {x : Operand} {l : List Operand} {ats : Array TypeId} {caps xs ys : List AV} {y : AV} {H1 : List (Nat × Bx)} (σ : Nat → Nat) (hc : CFn P f ys H1 y H1) (hyd : dataA y = true) (hd : dOk nt d = true) (hf : P.funcs[f]? = some fn) (hb : fn.body.isSome = true) (hnm : (fn.name == "runtime.NumGoroutine") = false)
    (hxf : evalO T x = some (.fn (.func f) [] caps)) (hx : l.map (evalO T) = xs.map some) (hnt : xs.all notTup = true) (hw : WkGL σ H1 (xs ++ caps) ys)
    (hn : NamesOk σ H H1 H1) (hfr : FreshOk σ H H1 H1) (ho : OutB σ H1 H1 = true) (hi : nodupB (H1.map fun p => σ p.1) = true) :
    OpOK P E nt ops ⟨d, .call { callee := .value x, args := l.toArray, argTypes := ats }, ty, pos, af, gd⟩ T H ((H1.map fun p => σ p.1)) ⟨y, []⟩ := by
  intro T' H' ht hrh hwr B a w r K Q hK
  have hag : ∀ p ∈ H1, H' (σ p.1) = H (σ p.1) := fun p hp => hrh _ (List.mem_map.2 ⟨p, hp, rfl⟩)
  have hn' : NamesOk σ H' H1 H1 := by
    have : ∀ l : List (Nat × Bx), (∀ p ∈ l, H' (σ p.1) = H (σ p.1)) → NamesOk σ H H1 l → NamesOk σ H' H1 l := by
      intro l
      induction l with
      | nil => exact fun _ _ => trivial
      | cons p l ih =>
        obtain ⟨c, bx⟩ := p
        intro h1 ⟨h2, h3, h4⟩
        exact ⟨(h1 (c, bx) List.mem_cons_self).trans h2, h3, ih (fun p hp => h1 p (List.mem_cons_of_mem _ hp)) h4⟩
    exact this H1 hag hn
  have hfr' : FreshOk σ H' H1 H1 := by
    have : ∀ l : List (Nat × Bx), (∀ p ∈ l, H' (σ p.1) = H (σ p.1)) → FreshOk σ H H1 l → FreshOk σ H' H1 l := by
      intro l
      induction l with
      | nil => exact fun _ _ => trivial
      | cons p l ih =>
        obtain ⟨c, bx⟩ := p
        intro h1 ⟨h2, h3⟩
        refine ⟨?_, ih (fun p hp => h1 p (List.mem_cons_of_mem _ hp)) h3⟩
        cases hl : look c H1 with
        | some b1 => rw [hl] at h2; exact h2
        | none => rw [hl] at h2; exact (h1 (c, bx) List.mem_cons_self).trans h2
    exact this H1 hag hfr
  have he0 : updH H' (outW σ H1) = H' := updH_same (fun p hp => (hn'.all p hp).1)
  obtain ⟨ey, ny⟩ := ren_data σ y hyd
  have hxs := args_rdp r l xs (map_agree hx (fun y hy => agree_op ht (by simp [Op.operands, Call.operands]; exact .inr hy))) (fun z hz => notTup_ne (List.all_eq_true.1 hnt z hz))
  have hfv := Rdv_one (by simp) (r.eval ((agree_op ht (x := x) (by simp [Op.operands, Call.operands])).trans hxf)) rfl
  simp only [Rd] at hfv
  obtain ⟨c1, c2, e1, e2, e3⟩ := hfv
  simp only [Rdp] at e2
  subst e2
  injection e1 with e1
  obtain ⟨k1, k2⟩ := hw.rdp (Rdp_append hxs e3)
  have h2 := call_boxes r.mem hc (fun _ => trivial) k1 k2 hn' hfr' ho hi (by rw [ny]; rfl)
  unfold Oper.wp
  have he : (execOp a.eval ⟨d, .call { callee := .value x, args := l.toArray, argTypes := ats }, ty, pos, af, gd⟩).run P w = .ok (.enter f (l.map a.eval ++ c2).toArray) w := by
    have hb' : fn.body ≠ none := by cases h : fn.body <;> simp_all
    have hn' : fn.name ≠ "runtime.NumGoroutine" := by simpa using hnm
    have ha : (l.map a.eval ++ c2).toArray = (l.toArray.map a.eval) ++ c2.toArray := by apply Array.ext'; simp
    rw [ha]
    simp [execOp, resolve, Deferred.ofValue, e1, invoke, callFunc, hf, hn', hb']
  rw [he]
  refine Calls.mono h2 ?_
  rintro e w' ⟨v, B', rfl, h3, h4, h5⟩
  rw [he0] at h3 h4 h5
  rw [ey] at h4
  refine hK B' _ w' ((h3.rel r.nt r.df fun s z hs => ?_).put hd h4)
  obtain ⟨v0, q1, q2⟩ := r.tmp s z hs
  exact ⟨v0, q1, h5 _ _ q2⟩
end
section
variable {E : Env} {nt : Nat} {ops : Array Oper} {T : Nat → Option AV} {H : Hp} {d : Option Nat} {ty : TypeId} {pos : String} {af : Array Edge} {gd : Option (Nat × Bool)}
theorem o_rcall {f : FuncId} {x : Operand} {l : List Operand} {ats : Array TypeId} {caps xs ys : List AV} {y : AV} {H1 : List (Nat × Bx)} (s : List (Nat × Nat)) (hc : CCall f ys H1 y H1) (hyd : dataA y = true) (hd : dOk nt d = true)
    (hxf : evalO T x = some (.fn (.func f) [] caps)) (hx : argsA T l = some xs) (hnt : xs.all notTup = true) (hw : WkGL (sg s) H1 (xs ++ caps) ys)
    (hn : NamesOk (sg s) H H1 H1) (hfr : FreshOk (sg s) H H1 H1) (ho : OutB (sg s) H1 H1 = true) (hi : nodupB (H1.map fun p => sg s p.1) = true) :
    OpOK Try.prog E nt ops ⟨d, .call { callee := .value x, args := l.toArray, argTypes := ats }, ty, pos, af, gd⟩ T H ((H1.map fun p => sg s p.1)) ⟨y, []⟩ := by
  obtain ⟨fn, h1, h2, h3, h4⟩ := hc
  exact ok_rcall (sg s) h4 hyd hd h1 h2 h3 hxf (argsA_map hx) hnt hw hn hfr ho hi
end
section
variable {P : Program} {E : Env} {nt : Nat} {ops : Array Oper} {l : List Oper} {T : List (Nat × AV)} {H : List (Nat × Bx)} {rs : List Rec} {K : St → List Rec → Prop} {op : Op} {ty : TypeId} {pos : String} {af : Array Edge} {gd : Option (Nat × Bool)} {d : Nat} {rh : List Nat}
theorem WvN (rh' : List Nat) {v : AV} (hok : OpOK P E nt ops ⟨some d, op, ty, pos, af, gd⟩ (St.t ⟨T, H⟩) (St.h ⟨T, H⟩) rh ⟨v, []⟩) (h1 : rh = rh') (hw : wantedA ops ⟨some d, op, ty, pos, af, gd⟩ (St.t ⟨T, H⟩) = some true)
    (h : AWops P E nt ops l ⟨(d, v) :: T, H⟩ (rs ++ [⟨rh', []⟩]) K) : AWops P E nt ops (⟨some d, op, ty, pos, af, gd⟩ :: l) ⟨T, H⟩ rs K := by
  subst h1
  exact Wv hok hw h
end
section
variable {E : Env} {nt : Nat} {ops : Array Oper} {T : Nat → Option AV} {H : Hp} {d : Option Nat} {ty : TypeId} {pos : String} {af : Array Edge} {gd : Option (Nat × Bool)}
/-- an array behind a pointer to what stays, as bytes -/
theorem ob_cutr {t e : TypeId} {tn len : Nat} {ea : Bool} {x : Operand} {m : Nat} {f : BitVec 8 → AV} {xs : List (BitVec 8)} (hd : dOk nt d = true) (hs : tabT.ti t = some (.arr tn (len + 1) 1 ea e)) (hx : evalO T x = some (.ref (.arr m 1 (xs.map f)))) (hxl : xs.length = len + 1) (hl : len < 9223372036854775807) :
    OpOK Try.prog E nt ops ⟨d, .slice t x none none none, ty, pos, af, gd⟩ T H [] ⟨.sl none 1 (xs.map f), []⟩ :=
  ok_val hd fun B T' H' a w r ht hh => by
    have hr := Rdv_one (by simp) (r.eval ((ht x (by simp [Op.operands])).trans hx)) rfl
    simp only [Rd] at hr
    obtain ⟨b, off, c, k1, k2, k3, k4, k5⟩ := hr
    injection k1 with k1
    obtain ⟨_, hu, he⟩ := tabT.ok t _ hs
    have hz := run_sizeOf_of he w
    have hcl := Rdu_len k5
    rw [List.length_map, hxl] at hcl
    have hM := bounds_run (P := Try.prog) (isS := false) (len := len + 1) (cap := len + 1) r (show BndA T' none 0 0 from rfl) (show BndA T' none (len + 1) (len + 1) from rfl) (show BndA T' none (len + 1) (len + 1) from rfl) (by simp) (Nat.zero_le _) (Nat.le_refl _) (Nat.le_refl _)
    refine ⟨.slice (some ⟨b, off, none⟩) (len + 1) (len + 1), ?_, ?_⟩
    · simp at hM
      simp [execOp, k1, Instr.sliceAt, run_underlying hu, Instr.sureAddr, hM, hz, Addr.add]
    · rw [Rdv_not (by simp)]
      refine ⟨[_], ?_, rfl⟩
      simp only [Rd, List.length_map, hxl]
      refine ⟨_, len + 1, rfl, Nat.le_refl _, by unfold maxLen; omega, fun _ => ⟨b, off, c, rfl, by rw [← hcl]; exact k2, by rw [← hcl]; exact k3, k5⟩, fun t ht => by cases ht⟩
theorem o_addc {t t' : TypeId} {x y : Operand} {c : Int} {a : Nat} (hd : dOk nt d = true) (hx : evalO T x = some (.v (.int .i64 c))) (hy : evalO T y = some (.v (.int .i64 (a : Nat)))) (hc : 0 ≤ c) (hb : c + a ≤ 9223372036854775807) : OpOK Try.prog E nt ops ⟨d, .binOp .add t x y t', ty, pos, af, gd⟩ T H [] ⟨.v (.int .i64 ((c.toNat + a : Nat) : Int)), []⟩ :=
  ok_add hd hx hy (by rw [IntKind.wrap_i64]; omega)
end
theorem o_zero {tx e : TypeId} {es bytes : Nat} {ea : Bool} {tok : Option Nat} (hs : tabT.ti tx = some (.sl e es bytes ea)) : SrcOf Try.prog tx es (.sl tok es [.v (.int .u8 0)]) ([0#8].map byteA) := by
  have := o_one byteA 0#8 (tok := tok) hs
  rw [byte0] at this
  simpa [byte0] using this
/-! ### ends -/
section
variable {P : Program} {S : St} {H2 : List (Nat × Bx)}
theorem finc {rv : List ResultVar} {ys : List AV} (h : LeaveOk S.H H2 ∧ ResLC P S H2 rv ys) : (Exit.ret = .normal ∨ Exit.ret = .ret) ∧ LeaveOk S.H H2 ∧ ResLC P S H2 rv ys := ⟨.inr rfl, h⟩
theorem rc_of {t : Nat} {x : AV} (hx : S.t t = some x) (hn : notTup x = true) (hb : (namesA x).all (fun g => (look g H2).isSome) = true) : Res1C P S H2 (.tmp t) x := ⟨x, hx, notTup_ne hn, .inl ⟨rfl, hb⟩⟩
theorem rc_sl {t n : Nat} {tok : Option Nat} {xs : List AV} (hx : S.t t = some (.sl tok n xs)) : Res1C P S H2 (.tmp t) (.sl none n xs) := ⟨_, hx, notTup_ne rfl, .inr Wk.tok⟩
theorem rc_var {S : St} {a t g : Nat} {x : AV} (ha : S.t a = some (.ptr g 0 [])) (hg : S.h g = some (.var x)) (hs : tabT.sa t = some (isAggA x, sizeA x)) (hb : (namesA x).all (fun g => (look g H2).isSome) = true) : Res1C Try.prog S H2 (.cell a t) x := ⟨g, x, ha, hg, tabT.tyOf hs, .inl ⟨rfl, hb⟩⟩
end
end Go.Proofs.Ytcmdhpinelnclaa

namespace Go.Proofs.Ytcmdhpinelnclaa
open Go Go.RowKit
set_option linter.unusedVariables false
set_option linter.unusedSimpArgs false
set_option maxRecDepth 100000

/-! ### plain law -/
@[irreducible] def Msg.ok (m : Msg) : Bool := decide (1 ≤ m.kind) && decide (m.kind ≤ 3) && m.key.ok && (if m.kind = 1 then m.val.ok else decide (m.val = Vl.zero)) && (decide (m.kind = 3) || decide (m.add = 0#64))
theorem D64_eq0 (n : BitVec 64) : D64 n = 0 ↔ n = 0#64 := by
  rw [← D64_zero]
  exact D64_inj
theorem Msg.no1 {m : Msg} (h : m.kind < 1) : m.ok = false := by unfold Msg.ok; simp [show ¬ 1 ≤ m.kind by omega]
theorem Msg.no3 {m : Msg} (h : 3 < m.kind) : m.ok = false := by unfold Msg.ok; simp [show ¬ m.kind ≤ 3 by omega]
theorem Msg.nok {m : Msg} (h : m.key.ok = false) : m.ok = false := by unfold Msg.ok; simp [h]
theorem Msg.nov {m : Msg} (h1 : m.kind = 1) (h : m.val.ok = false) : m.ok = false := by unfold Msg.ok; simp [h1, h]
theorem Msg.noz {m : Msg} (h1 : ¬ m.kind = 1) (h : m.val ≠ Vl.zero) : m.ok = false := by unfold Msg.ok; simp [h1, h]
theorem Msg.okPut {m : Msg} (h1 : m.kind = 1) (hk : m.key.ok = true) (h : m.val.ok = true) : m.ok = decide (D64 m.add = 0) := by
  unfold Msg.ok; simp [h1, hk, h, D64_eq0]
theorem Msg.okDel {m : Msg} (h1 : m.kind = 2) (hk : m.key.ok = true) (h : m.val = Vl.zero) : m.ok = decide (D64 m.add = 0) := by
  unfold Msg.ok; simp [h1, hk, h, D64_eq0]
theorem Msg.okAdd {m : Msg} (h1 : m.kind = 3) (hk : m.key.ok = true) (h : m.val = Vl.zero) : m.ok = true := by
  unfold Msg.ok; simp [h1, hk, h]
theorem Msg.spec {m : Msg} (h : m.ok = true) : 1 ≤ m.kind ∧ m.kind ≤ 3 ∧ m.key.ok = true ∧ m.val.ok = true ∧ (m.kind ≠ 1 → m.val = Vl.zero) ∧ (m.kind ≠ 3 → m.add = 0#64) := by
  unfold Msg.ok at h
  simp only [Bool.and_eq_true, Bool.or_eq_true, decide_eq_true_eq] at h
  obtain ⟨⟨⟨⟨h1, h2⟩, h3⟩, h4⟩, h5⟩ := h
  by_cases c : m.kind = 1
  · rw [if_pos c] at h4
    exact ⟨h1, h2, h3, h4, fun n => absurd c n, fun n => h5.resolve_left n⟩
  · rw [if_neg c, decide_eq_true_eq] at h4
    exact ⟨h1, h2, h3, by rw [h4]; exact Vl.zero_ok, fun _ => h4, fun n => h5.resolve_left n⟩
theorem Key.n_le {k : Key} (h : k.ok = true) : 0 ≤ k.n ∧ k.n ≤ 8 := by have := (Key.ok_iff k).1 h; exact ⟨this.1, this.2.1⟩
theorem Vl.n_le {k : Vl} (h : k.ok = true) : 0 ≤ k.n ∧ k.n ≤ 16 := by have := (Vl.ok_iff k).1 h; exact ⟨this.1, this.2.1⟩
def Msg.size (m : Msg) : Int := if m.ok then (if m.kind = 1 then 11 + m.key.n + m.val.n else if m.kind = 3 then 18 + m.key.n else 10 + m.key.n) else 0
def applyM (v : Vl) (there : Bool) (m : Msg) : Vl × Bool :=
  if m.kind = 1 then (m.val, true) else if m.kind = 2 then (Vl.zero, false) else if there then (vplus v m.add, true) else (fromN m.add, true)
def composeM (o n : Msg) : Msg :=
  if n.kind ≠ 3 ∨ o.key ≠ n.key then n else
  if o.kind = 1 then ⟨1, n.seq, n.key, vplus o.val n.add, 0#64⟩ else
  if o.kind = 2 then ⟨1, n.seq, n.key, fromN n.add, 0#64⟩ else
  ⟨3, n.seq, n.key, Vl.zero, o.add + n.add⟩
/-! ### contracts -/
theorem a_reffrom (n : BitVec 64) : AFn Try.prog 90 [u64A n] (fromN n).av := fun U w vs h => by
  obtain ⟨v1, us, rfl, h1, h⟩ := rdp_one h
  obtain rfl := rdp_nil h
  rw [u64_arg h1]
  exact ofIs (reffrom_any n w) fun w' => dVl.rdv.2 rfl
section
variable {E : Env} {nt : Nat} {ops : Array Oper} {T : Nat → Option AV} {H : Hp} {d : Option Nat} {ty : TypeId} {pos : String} {af : Array Edge} {gd : Option (Nat × Bool)}
theorem o_addu {t t' : TypeId} {x y : Operand} {a b : BitVec 64} (hd : dOk nt d = true) (hx : evalO T x = some (.v (.int .u64 (D64 a)))) (hy : evalO T y = some (.v (.int .u64 (D64 b)))) : OpOK Try.prog E nt ops ⟨d, .binOp .add t x y t', ty, pos, af, gd⟩ T H [] ⟨.v (.int .u64 (D64 (a + b))), []⟩ := ok_add hd hx hy (D64_add a b)
set_option maxRecDepth 100000 in
theorem z_bld0 {t n : Nat} {fs : List (Nat × Nat × Bool)} {zs : List AV} {z : AV} (hz : zeroT t = some z) (hze : z = .agg n zs) (hd : dOk nt d = true) (hs : tabT.ti t = some (.st n fs)) (hp : placesOk 0 zs fs = true) :
    OpOK Try.prog E nt ops ⟨d, .build t #[], ty, pos, af, gd⟩ T H [] ⟨z, []⟩ := by
  subst hze
  exact ok_build tabT (l := []) (vs := []) hd hs (zeroT_ok hz) rfl rfl hp
end
attribute [local irreducible] OpOK AWops AW CondB Go2 AFn thenA inBlockA noGotoA orderOk wantedA
set_option maxRecDepth 100000 in
set_option maxHeartbeats 4000000 in
theorem a_ref05check (m : Msg) : AFn Try.prog 89 [m.av] (boolA m.ok) := by
  refine AFn_intro Try.func89 rfl Try.ntmps89 rfl (by simp) [_] rfl fun E hE => ?_
  have c1 := acall Try.func79 (a_refkeycheck m.key) (by decide +kernel) (by decide +kernel)
  have c2 := acall Try.func87 (a_refvlcheck m.val) (by decide +kernel) (by decide +kernel)
  by_cases h1 : m.kind < 1
  · rw [Msg.no1 h1]
    refine wL ?_
    exact fin ⟨res_of rfl rfl rfl, trivial⟩
  by_cases h3 : 3 < m.kind
  · rw [Msg.no3 h3]
    refine wL ?_
    exact fin ⟨res_of rfl rfl rfl, trivial⟩
  cases hk : m.key.ok with
  | false =>
    rw [Msg.nok hk]
    rw [hk] at c1
    have k' : (!false) = true := rfl
    refine wL ?_
    exact fin ⟨res_of rfl rfl rfl, trivial⟩
  | true =>
    rw [hk] at c1
    have k' : (!true) = false := rfl
    have k'' : (!false) = true := rfl
    by_cases p : m.kind = 1
    · have p' : ¬ m.kind ≠ 1 := fun h => h p
      cases hv : m.val.ok with
      | false =>
        rw [Msg.nov p hv]
        rw [hv] at c2
        refine wL ?_
        exact fin ⟨res_of rfl rfl rfl, trivial⟩
      | true =>
        rw [Msg.okPut p hk hv]
        rw [hv] at c2
        have p3 : ¬ m.kind = 3 := by omega
        refine wL ?_
        exact fin ⟨res_of rfl rfl rfl, trivial⟩
    · have p' : m.kind ≠ 1 := p
      by_cases z : m.val = Vl.zero
      · have z' : ¬ m.val ≠ Vl.zero := fun h => h z
        by_cases p3 : m.kind = 3
        · rw [Msg.okAdd p3 hk z]
          refine wL ?_
          exact fin ⟨res_of rfl rfl rfl, trivial⟩
        · rw [Msg.okDel (by omega) hk z]
          refine wL ?_
          exact fin ⟨res_of rfl rfl rfl, trivial⟩
      · have z' : m.val ≠ Vl.zero := z
        rw [Msg.noz p z]
        refine wL ?_
        exact fin ⟨res_of rfl rfl rfl, trivial⟩
set_option maxRecDepth 100000 in
set_option maxHeartbeats 4000000 in
theorem a_ref05bytes (m : Msg) : AFn Try.prog 81 [m.av] (intA m.size) := by
  refine AFn_intro Try.func81 rfl Try.ntmps81 rfl (by simp) [_] rfl fun E hE => ?_
  have c1 := acall Try.func89 (a_ref05check m) (by decide +kernel) (by decide +kernel)
  unfold Msg.size
  cases hk : m.ok with
  | false =>
    rw [if_neg (by simp)]
    rw [hk] at c1
    have k' : (!false) = true := rfl
    refine wL ?_
    exact fin ⟨res_of rfl rfl rfl, trivial⟩
  | true =>
    rw [if_pos rfl]
    rw [hk] at c1
    have k' : (!true) = false := rfl
    obtain ⟨q1, q2, q3, q4, _⟩ := Msg.spec hk
    have n1 := Key.n_le q3
    have n2 := Vl.n_le q4
    by_cases p : m.kind = 1
    · rw [if_pos p]
      refine wL ?_
      exact fin ⟨res_of rfl rfl rfl, trivial⟩
    · rw [if_neg p]
      by_cases p3 : m.kind = 3
      · rw [if_pos p3]
        refine wL ?_
        exact fin ⟨res_of rfl rfl rfl, trivial⟩
      · rw [if_neg p3]
        refine wL ?_
        exact fin ⟨res_of rfl rfl rfl, trivial⟩
set_option maxRecDepth 100000 in
set_option maxHeartbeats 4000000 in
theorem a_refapply (v : Vl) (b : Bool) (m : Msg) : AFn Try.prog 75 [v.av, boolA b, m.av] (.tup [(applyM v b m).1.av, boolA (applyM v b m).2]) := by
  refine AFn_intro Try.func75 rfl Try.ntmps75 rfl (by simp) [_, _] rfl fun E hE => ?_
  have c1 := acall Try.func90 (a_reffrom m.add) (by decide +kernel) (by decide +kernel)
  have c2 := acall Try.func91 (a_refplus v m.add) (by decide +kernel) (by decide +kernel)
  unfold applyM
  by_cases p : m.kind = 1
  · rw [if_pos p]
    refine wL ?_
    exact fin ⟨res_var rfl rfl rfl rfl, res_of rfl rfl rfl, trivial⟩
  rw [if_neg p]
  by_cases p2 : m.kind = 2
  · rw [if_pos p2]
    refine wL ?_
    exact fin ⟨res_var rfl rfl rfl rfl, res_of rfl rfl rfl, trivial⟩
  rw [if_neg p2]
  cases b with
  | true =>
    have k' : (!true) = false := rfl
    refine wL ?_
    exact fin ⟨res_var rfl rfl rfl rfl, res_of rfl rfl rfl, trivial⟩
  | false =>
    have k' : (!false) = true := rfl
    refine wL ?_
    exact fin ⟨res_var rfl rfl rfl rfl, res_of rfl rfl rfl, trivial⟩
set_option maxRecDepth 100000 in
set_option maxHeartbeats 4000000 in
theorem a_refcompose (o n : Msg) : AFn Try.prog 80 [o.av, n.av] (composeM o n).av := by
  refine AFn_intro Try.func80 rfl Try.ntmps80 rfl (by simp) [_] rfl fun E hE => ?_
  have c1 := acall Try.func90 (a_reffrom n.add) (by decide +kernel) (by decide +kernel)
  have c2 := acall Try.func91 (a_refplus o.val n.add) (by decide +kernel) (by decide +kernel)
  unfold composeM
  by_cases p : n.kind ≠ 3
  · rw [if_pos (.inl p)]
    refine wL ?_
    exact fin ⟨res_var rfl rfl rfl rfl, trivial⟩
  by_cases q : o.key ≠ n.key
  · rw [if_pos (.inr q)]
    refine wL ?_
    exact fin ⟨res_var rfl rfl rfl rfl, trivial⟩
  rw [if_neg (by simp only [not_or]; exact ⟨p, q⟩)]
  by_cases p1 : o.kind = 1
  · rw [if_pos p1]
    refine wL ?_
    exact fin ⟨res_var rfl rfl rfl rfl, trivial⟩
  rw [if_neg p1]
  by_cases p2 : o.kind = 2
  · rw [if_pos p2]
    refine wL ?_
    exact fin ⟨res_var rfl rfl rfl rfl, trivial⟩
  rw [if_neg p2]
  refine wL ?_
  exact fin ⟨res_var rfl rfl rfl rfl, trivial⟩
end Go.Proofs.Ytcmdhpinelnclaa

namespace Go.Proofs.Ytcmdhpinelnclaa
open Go Go.RowKit
set_option linter.unusedVariables false
set_option linter.unusedSimpArgs false
set_option maxRecDepth 100000

def bSum (l : List Msg) : Int := (l.map Msg.size).sum
def bfAt (k : Key) (l : List Msg) : Nat := l.countP fun e => decide (e.key.rank < k.rank)
def BSrt (l : List Msg) : Prop := l.Pairwise fun a b => a.key.rank < b.key.rank
structure Bf (l : List Msg) : Prop where
  ok : ∀ m ∈ l, m.ok = true
  srt : BSrt l
/-- a key's message -/
def bfGet (k : Key) (l : List Msg) : Option Msg := l.find? fun e => decide (e.key = k)
def newM (m : Msg) (o : Option Msg) : Msg := match o with
  | some x => composeM x m
  | none => m
def bfSet (l : List Msg) (m : Msg) : List Msg := l.filter (fun e => decide (e.key.rank < m.key.rank)) ++ ([m] ++ l.filter (fun e => decide (m.key.rank < e.key.rank)))
/-- the buffer with a message more -/
def bfAdd (l : List Msg) (m : Msg) : List Msg := bfSet l (newM m (bfGet m.key l))
def bfAll (l ms : List Msg) : List Msg := ms.foldl bfAdd l
theorem composeM_key (o n : Msg) : (composeM o n).key = n.key := by
  unfold composeM
  split
  · rfl
  · split
    · rfl
    · split <;> rfl
theorem newM_key (m : Msg) (o : Option Msg) : (newM m o).key = m.key := by
  cases o with
  | none => rfl
  | some x => exact composeM_key x m

theorem bfAt_le (k : Key) (l : List Msg) : bfAt k l ≤ l.length := List.countP_le_length
theorem bfAt_cons (k : Key) (e : Msg) (l : List Msg) : bfAt k (e :: l) = bfAt k l + if e.key.rank < k.rank then 1 else 0 := by
  unfold bfAt
  rw [List.countP_cons]
  simp
theorem BSrt.tail {e : Msg} {l : List Msg} (h : BSrt (e :: l)) : BSrt l := (List.pairwise_cons.1 h).2
theorem BSrt.head {e : Msg} {l : List Msg} (h : BSrt (e :: l)) : ∀ b ∈ l, e.key.rank < b.key.rank := (List.pairwise_cons.1 h).1
theorem bfAt_zero {k : Key} {l : List Msg} (h : ∀ b ∈ l, k.rank ≤ b.key.rank) : bfAt k l = 0 := by
  unfold bfAt
  rw [List.countP_eq_zero]
  intro b hb
  have := h b hb
  simp; omega
theorem bfAt_iff {k : Key} {l : List Msg} (h : BSrt l) : ∀ i (hi : i < l.length), (i < bfAt k l ↔ l[i].key.rank < k.rank) := by
  induction l with
  | nil => intro i hi; cases hi
  | cons e l ih =>
    intro i hi
    rw [bfAt_cons]
    by_cases c : e.key.rank < k.rank
    · rw [if_pos c]
      cases i with
      | zero => simp [c]
      | succ i => simpa using ih h.tail i (by simpa using hi)
    · rw [if_neg c]
      have hz : bfAt k l = 0 := bfAt_zero fun b hb => by have := h.head b hb; omega
      rw [hz]
      cases i with
      | zero => simp; omega
      | succ i =>
        have hi' : i < l.length := by simpa using hi
        have := h.head l[i] (List.getElem_mem hi')
        simp; omega
theorem BSrt.lt {l : List Msg} (h : BSrt l) {i j : Nat} (hi : i < l.length) (hj : j < l.length) (hij : i < j) : l[i].key.rank < l[j].key.rank := List.pairwise_iff_getElem.1 h i j hi hj hij
theorem BSrt.inj {l : List Msg} (h : BSrt l) {a b : Msg} (ha : a ∈ l) (hb : b ∈ l) (he : a.key.rank = b.key.rank) : a = b := by
  obtain ⟨i, hi, rfl⟩ := List.mem_iff_getElem.1 ha
  obtain ⟨j, hj, rfl⟩ := List.mem_iff_getElem.1 hb
  rcases Nat.lt_trichotomy i j with c | c | c
  · have := h.lt hi hj c; omega
  · subst c; rfl
  · have := h.lt hj hi c; omega
theorem bfGet_iff {l : List Msg} (h : BSrt l) (k : Key) (m : Msg) : bfGet k l = some m ↔ m ∈ l ∧ m.key = k := by
  unfold bfGet
  constructor
  · intro hf
    have h4 := List.find?_some hf
    rw [decide_eq_true_eq] at h4
    exact ⟨List.mem_of_find?_eq_some hf, h4⟩
  · rintro ⟨hm, rfl⟩
    cases hf : l.find? (fun e => decide (e.key = m.key)) with
    | none =>
      rw [List.find?_eq_none] at hf
      have := hf _ hm
      simp at this
    | some e =>
      have h3 := List.mem_of_find?_eq_some hf
      have h4 := List.find?_some hf
      rw [decide_eq_true_eq] at h4
      rw [h.inj h3 hm (by rw [h4])]
theorem bget_hit {l : List Msg} (h : BSrt l) {k : Key} {i : Nat} (hi : i < l.length) (he : l[i].key = k) : bfGet k l = some l[i] := by
  rw [bfGet_iff h]
  exact ⟨List.getElem_mem hi, he⟩
theorem bat_hit {l : List Msg} (h : BSrt l) {k : Key} {i : Nat} (hi : i < l.length) (he : l[i].key.rank = k.rank) : bfAt k l = i := by
  have h1 := (bfAt_iff (k := k) h i hi)
  have h3 := bfAt_le k l
  rcases Nat.lt_trichotomy (bfAt k l) i with c | c | c
  · have h4 := (bfAt_iff (k := k) h (bfAt k l) (by omega))
    have := h.lt (by omega) hi c
    omega
  · exact c
  · omega
theorem bget_no {l : List Msg} (h : BSrt l) {k : Key} (hn : ∀ (hi : bfAt k l < l.length), l[bfAt k l].key ≠ k) : bfGet k l = none := by
  cases hg : bfGet k l with
  | none => rfl
  | some v =>
    rw [bfGet_iff h] at hg
    obtain ⟨i, hi, he⟩ := List.mem_iff_getElem.1 hg.1
    have := bat_hit h (k := k) hi (by rw [he, hg.2])
    subst this
    exact absurd (by rw [he, hg.2]) (hn hi)
theorem bflt_lo {k : Key} {l : List Msg} (h : BSrt l) : l.filter (fun e => decide (e.key.rank < k.rank)) = l.take (bfAt k l) := by
  induction l with
  | nil => rfl
  | cons e l ih =>
    rw [bfAt_cons]
    by_cases c : e.key.rank < k.rank
    · rw [if_pos c, List.filter_cons_of_pos (by simpa using c), List.take_succ_cons, ih h.tail]
    · rw [if_neg c, List.filter_cons_of_neg (by simpa using c)]
      have hz : bfAt k l = 0 := bfAt_zero fun b hb => by have := h.head b hb; omega
      rw [ih h.tail, hz]
      rfl
theorem bflt_all {k : Key} {l : List Msg} (h : ∀ b ∈ l, k.rank < b.key.rank) : l.filter (fun e => decide (k.rank < e.key.rank)) = l := by
  rw [List.filter_eq_self]
  intro b hb
  simpa using h b hb
theorem bflt_hi {k : Key} {l : List Msg} (h : BSrt l) : l.filter (fun e => decide (k.rank < e.key.rank)) = l.drop (bfAt k l + if (∃ hi : bfAt k l < l.length, l[bfAt k l].key.rank = k.rank) then 1 else 0) := by
  induction l with
  | nil => simp
  | cons e l ih =>
    by_cases c : e.key.rank < k.rank
    · have e1 : bfAt k (e :: l) = bfAt k l + 1 := by rw [bfAt_cons, if_pos c]
      have e2 : (∃ hi : bfAt k (e :: l) < (e :: l).length, (e :: l)[bfAt k (e :: l)].key.rank = k.rank) ↔ (∃ hi : bfAt k l < l.length, l[bfAt k l].key.rank = k.rank) := by
        simp only [e1]
        constructor
        · rintro ⟨h1, h2⟩; exact ⟨by simpa using h1, by simpa using h2⟩
        · rintro ⟨h1, h2⟩; exact ⟨by simpa using h1, by simpa using h2⟩
      have ih' := ih h.tail
      rw [List.filter_cons_of_neg (by simp; omega), ih']
      by_cases g : ∃ hi : bfAt k l < l.length, l[bfAt k l].key.rank = k.rank
      · rw [if_pos g, if_pos (e2.2 g), e1, show bfAt k l + 1 + 1 = (bfAt k l + 1) + 1 from rfl, List.drop_succ_cons]
      · rw [if_neg g, if_neg (fun x => g (e2.1 x)), e1, Nat.add_zero, Nat.add_zero, List.drop_succ_cons]
    · have hz : bfAt k l = 0 := bfAt_zero fun b hb => by have := h.head b hb; omega
      have e1 : bfAt k (e :: l) = 0 := by rw [bfAt_cons, if_neg c, hz]
      rw [e1]
      by_cases d : e.key.rank = k.rank
      · rw [if_pos ⟨by simp [e1], by simpa [e1] using d⟩, List.filter_cons_of_neg (by simp; omega), bflt_all (fun b hb => by have := h.head b hb; omega)]
        rfl
      · rw [if_neg (fun ⟨_, h2⟩ => d (by simpa [e1] using h2)), bflt_all (fun b hb => by
          rcases List.mem_cons.1 hb with rfl | hb
          · omega
          · have := h.head b hb; omega)]
        rfl
theorem add_hit {l : List Msg} (h : BSrt l) (m : Msg) (hi : bfAt m.key l < l.length) (he : l[bfAt m.key l].key = m.key) : bfAdd l m = l.take (bfAt m.key l) ++ ([composeM l[bfAt m.key l] m] ++ l.drop (bfAt m.key l + 1)) := by
  unfold bfAdd bfSet
  rw [newM_key, bget_hit h hi he, bflt_lo h, bflt_hi h, if_pos ⟨hi, by rw [he]⟩]
  rfl
theorem add_no {l : List Msg} (h : Bf l) (m : Msg) (hk : m.key.ok = true) (hn : ∀ (hi : bfAt m.key l < l.length), l[bfAt m.key l].key ≠ m.key) : bfAdd l m = l.take (bfAt m.key l) ++ ([m] ++ l.drop (bfAt m.key l)) := by
  unfold bfAdd bfSet
  rw [newM_key, bget_no h.srt hn, bflt_lo h.srt, bflt_hi h.srt, if_neg]
  · rfl
  · rintro ⟨hi, h2⟩
    exact hn hi ((rank_inj (Msg.spec (h.ok _ (List.getElem_mem hi))).2.2.1 hk).1 h2)
theorem mem_bset {l : List Msg} {m e : Msg} : e ∈ bfSet l m ↔ (e ∈ l ∧ e.key.rank ≠ m.key.rank) ∨ e = m := by
  unfold bfSet
  simp only [List.mem_append, List.mem_filter, decide_eq_true_eq, List.mem_singleton]
  constructor
  · rintro (⟨h1, h2⟩ | h1 | ⟨h1, h2⟩)
    · exact .inl ⟨h1, by omega⟩
    · exact .inr h1
    · exact .inl ⟨h1, by omega⟩
  · rintro (⟨h1, h2⟩ | h1)
    · rcases Nat.lt_or_gt_of_ne h2 with c | c
      · exact .inl ⟨h1, c⟩
      · exact .inr (.inr ⟨h1, c⟩)
    · exact .inr (.inl h1)
theorem srt_bset {l : List Msg} (h : BSrt l) (m : Msg) : BSrt (bfSet l m) := by
  unfold BSrt bfSet
  rw [List.pairwise_append, List.pairwise_append]
  refine ⟨h.sublist List.filter_sublist, ⟨List.pairwise_singleton .., h.sublist List.filter_sublist, fun a ha b hb => ?_⟩, fun a ha b hb => ?_⟩
  · rw [List.mem_singleton.1 ha]
    simpa using (List.mem_filter.1 hb).2
  · have h1 : a.key.rank < m.key.rank := by simpa using (List.mem_filter.1 ha).2
    rcases List.mem_append.1 hb with hb | hb
    · rw [List.mem_singleton.1 hb]; exact h1
    · have h2 : m.key.rank < b.key.rank := by simpa using (List.mem_filter.1 hb).2
      omega
theorem bf_set {l : List Msg} (h : Bf l) {m : Msg} (hm : m.ok = true) : Bf (bfSet l m) := by
  refine ⟨fun e he => ?_, srt_bset h.srt m⟩
  rcases mem_bset.1 he with ⟨h1, _⟩ | rfl
  · exact h.ok e h1
  · exact hm
theorem get_bset {l : List Msg} (h : Bf l) {m : Msg} (hm : m.ok = true) {x : Key} (hx : x.ok = true) : bfGet x (bfSet l m) = if x = m.key then some m else bfGet x l := by
  apply Option.ext
  intro v
  rw [bfGet_iff (srt_bset h.srt m), mem_bset]
  by_cases c : x = m.key
  · rw [if_pos c]; subst c
    simp only [Option.some.injEq]
    constructor
    · rintro ⟨h1 | h1, h2⟩
      · rw [h2] at h1; exact absurd rfl h1.2
      · exact h1.symm
    · intro h1; subst h1; exact ⟨.inr rfl, rfl⟩
  · rw [if_neg c, bfGet_iff h.srt]
    have : x.rank ≠ m.key.rank := fun e => c ((rank_inj hx (Msg.spec hm).2.2.1).1 e)
    constructor
    · rintro ⟨h1 | h1, h2⟩
      · exact ⟨h1.1, h2⟩
      · rw [h1] at h2; exact absurd h2.symm c
    · rintro ⟨h1, h2⟩
      exact ⟨.inl ⟨h1, by rw [h2]; exact this⟩, h2⟩
theorem vplus_ok' (v : Vl) (n : BitVec 64) : (vplus v n).ok = true := fromN_ok _
theorem Msg.mkOk {k : Int} {s : BitVec 64} {key : Key} {v : Vl} {n : BitVec 64} (h1 : 1 ≤ k ∧ k ≤ 3) (hk : key.ok = true) (hv : if k = 1 then v.ok = true else v = Vl.zero) (hn : k ≠ 3 → n = 0#64) : (⟨k, s, key, v, n⟩ : Msg).ok = true := by
  unfold Msg.ok
  by_cases c : k = 1
  · rw [if_pos c] at hv
    simp [c, hk, hv, hn (by omega)]
  · rw [if_neg c] at hv
    by_cases d : k = 3
    · simp [d, hk, hv]
    · simp [c, d, hk, hv, hn d, h1.1, h1.2]
theorem composeM_ok {o n : Msg} (ho : o.ok = true) (hn : n.ok = true) : (composeM o n).ok = true := by
  have hs := Msg.spec ho
  have hs2 := Msg.spec hn
  unfold composeM
  split
  · exact hn
  · split
    · exact Msg.mkOk ⟨by omega, by omega⟩ hs2.2.2.1 (by rw [if_pos rfl]; exact vplus_ok' _ _) (fun _ => rfl)
    · split
      · exact Msg.mkOk ⟨by omega, by omega⟩ hs2.2.2.1 (by rw [if_pos rfl]; exact fromN_ok _) (fun _ => rfl)
      · exact Msg.mkOk ⟨by omega, by omega⟩ hs2.2.2.1 (by rw [if_neg (by omega)]) (fun h => absurd rfl h)
theorem newM_ok {m : Msg} (hm : m.ok = true) {o : Option Msg} (ho : ∀ x, o = some x → x.ok = true) : (newM m o).ok = true := by
  cases o with
  | none => exact hm
  | some x => exact composeM_ok (ho x rfl) hm
theorem bget_ok {l : List Msg} (h : Bf l) (k : Key) : ∀ x, bfGet k l = some x → x.ok = true := fun x hx => h.ok _ ((bfGet_iff h.srt k x).1 hx).1
theorem bf_add {l : List Msg} (h : Bf l) {m : Msg} (hm : m.ok = true) : Bf (bfAdd l m) := bf_set h (newM_ok hm (bget_ok h _))
theorem get_add {l : List Msg} (h : Bf l) {m : Msg} (hm : m.ok = true) {x : Key} (hx : x.ok = true) : bfGet x (bfAdd l m) = if x = m.key then some (newM m (bfGet m.key l)) else bfGet x l := by
  unfold bfAdd
  rw [get_bset h (newM_ok hm (bget_ok h _)) hx, newM_key]
theorem bf_nil : Bf [] := ⟨(fun e h => by cases h), List.Pairwise.nil⟩
theorem bset_len {l : List Msg} (m : Msg) : (bfSet l m).length ≤ l.length + 1 := by
  unfold bfSet
  have h2 : (l.filter (fun e => decide (e.key.rank < m.key.rank))).length + (l.filter (fun e => decide (m.key.rank < e.key.rank))).length ≤ l.length := by
    induction l with
    | nil => simp
    | cons e l ih =>
      simp only [List.filter_cons]
      split <;> split <;> simp_all <;> omega
  simp only [List.length_append, List.length_singleton]
  omega
theorem add_len (l : List Msg) (m : Msg) : (bfAdd l m).length ≤ l.length + 1 := bset_len _
theorem bSum_append (a b : List Msg) : bSum (a ++ b) = bSum a + bSum b := by simp [bSum]
theorem bSum_snoc (l : List Msg) (j : Nat) (h : j < l.length) : bSum (l.take (j + 1)) = bSum (l.take j) + l[j].size := by
  rw [← List.take_append_getElem h, bSum_append]
  simp [bSum]
theorem Msg.size_le (m : Msg) : 0 ≤ m.size ∧ m.size ≤ 35 := by
  unfold Msg.size
  cases h : m.ok with
  | false => simp
  | true =>
    have hs := Msg.spec h
    have h1 := Key.n_le hs.2.2.1
    have h2 := Vl.n_le hs.2.2.2.1
    rw [if_pos rfl]
    split
    · omega
    · split <;> omega
theorem bSum_le : ∀ (l : List Msg), 0 ≤ bSum l ∧ bSum l ≤ 35 * (l.length : Int)
  | [] => by simp [bSum]
  | e :: l => by
    have h1 := bSum_le l
    have h2 := e.size_le
    have h3 : bSum (e :: l) = e.size + bSum l := by simp [bSum]
    rw [h3]
    simp only [List.length_cons]
    omega
end Go.Proofs.Ytcmdhpinelnclaa

namespace Go.Proofs.Ytcmdhpinelnclaa
open Go Go.RowKit
set_option linter.unusedVariables false
set_option linter.unusedSimpArgs false
set_option maxRecDepth 100000

def bfHit (k : Key) (l : List Msg) : Bool := match l[bfAt k l]? with
  | some e => decide (e.key = k)
  | none => false
attribute [local irreducible] OpOK AWops AW CondB Go2 AFn thenA inBlockA noGotoA orderOk wantedA
end Go.Proofs.Ytcmdhpinelnclaa

namespace Go.Proofs.Ytcmdhpinelnclaa
open Go Go.RowKit
set_option linter.unusedVariables false
set_option linter.unusedSimpArgs false
set_option maxRecDepth 100000

/-- what the document's loop has put out behind j entries -/
def outM {α : Type} (l : List α) (p q : Nat) (new : List α) (j : Nat) : List α := l.take (min j p) ++ ((if p < j then new else []) ++ (l.take j).drop q)
theorem outM_zero {α : Type} (l : List α) (p q : Nat) (new : List α) : outM l p q new 0 = [] := by simp [outM]
theorem outM_lo {α : Type} {l : List α} {p q : Nat} {new : List α} {j : Nat} (hp : p ≤ q) (hj : j < p) (hl : j < l.length) : outM l p q new (j + 1) = outM l p q new j ++ [l[j]] := by
  unfold outM
  rw [if_neg (by omega), if_neg (by omega), Nat.min_eq_left (by omega), Nat.min_eq_left (by omega), List.drop_eq_nil_of_le (by simp; omega), List.drop_eq_nil_of_le (by simp; omega)]
  simp only [List.append_nil]
  exact (List.take_append_getElem hl).symm
theorem drop_take_snocM {α : Type} {l : List α} {q j : Nat} (hq : q ≤ j) (hl : j < l.length) : (l.take (j + 1)).drop q = (l.take j).drop q ++ [l[j]] := by
  rw [← List.take_append_getElem hl, List.drop_append_of_le_length (by simp; omega)]
theorem outM_no {α : Type} {l : List α} {p : Nat} {new : List α} (hl : p < l.length) : outM l p p new (p + 1) = (outM l p p new p ++ new) ++ [l[p]] := by
  unfold outM
  rw [if_pos (by omega), if_neg (by omega), Nat.min_eq_right (by omega), Nat.min_self, drop_take_snocM (Nat.le_refl _) hl, List.drop_eq_nil_of_le (by simp; omega)]
  simp
theorem outM_hit {α : Type} {l : List α} {p : Nat} {new : List α} (hl : p < l.length) : outM l p (p + 1) new (p + 1) = outM l p (p + 1) new p ++ new := by
  unfold outM
  rw [if_pos (by omega), if_neg (by omega), Nat.min_eq_right (by omega), Nat.min_self, List.drop_eq_nil_of_le (by simp; omega), List.drop_eq_nil_of_le (by simp; omega)]
  simp
theorem outM_hi {α : Type} {l : List α} {p q : Nat} {new : List α} {j : Nat} (hq : q ≤ j) (hj : p < j) (hl : j < l.length) : outM l p q new (j + 1) = outM l p q new j ++ [l[j]] := by
  unfold outM
  rw [if_pos (by omega), if_pos (by omega), Nat.min_eq_right (by omega), Nat.min_eq_right (by omega), drop_take_snocM hq hl]
  simp
theorem outM_end {α : Type} {l : List α} {p q : Nat} {new : List α} (hp : p < l.length) : outM l p q new l.length = l.take p ++ (new ++ l.drop q) := by
  unfold outM
  rw [if_pos hp, Nat.min_eq_right (by omega), List.take_length]
theorem outM_end' {α : Type} {l : List α} {p q : Nat} {new : List α} (hp : p = l.length) (hq : p ≤ q) : outM l p q new l.length ++ new = l.take p ++ (new ++ l.drop q) := by
  unfold outM
  rw [if_neg (by omega), Nat.min_eq_left (by omega), List.take_length, List.drop_eq_nil_of_le (by omega)]
  subst hp
  simp
theorem outM_len {α : Type} {l : List α} {p q : Nat} {new : List α} (j : Nat) (hn : new.length ≤ 1) : (outM l p q new j).length ≤ 2 * l.length + 1 := by
  unfold outM
  simp only [List.length_append, List.length_take, List.length_drop]
  split <;> simp <;> omega
attribute [local irreducible] OpOK AWops AW CondB Go2 AFn thenA inBlockA noGotoA orderOk wantedA
set_option maxRecDepth 100000 in
set_option maxHeartbeats 8000000 in
theorem a_ref06add (l : List Msg) (m : Msg) (h : Bf l) (hm : m.key.ok = true) (hl : l.length ≤ 1000000000) : AFn Try.prog 54 [msgsA l, m.av] (msgsA (bfAdd l m)) := by
  refine AFn_intro Try.func54 rfl Try.ntmps54 rfl (by simp) [_] rfl fun E hE => ?_
  have hnt : (!true) = false := rfl
  have hnf : (!false) = true := rfl
  have hple := bfAt_le m.key l
  have hlo : ∀ j (hj : j < l.length), j < bfAt m.key l → refCmp l[j].key m.key < 0 := fun j hj c => by
    rw [refCmp_rank (Msg.spec (h.ok _ (List.getElem_mem hj))).2.2.1 hm, sgn_neg]; exact (bfAt_iff h.srt j hj).1 c
  have hhi : ∀ j (hj : j < l.length), bfAt m.key l < j → 0 < refCmp l[j].key m.key := fun j hj c => by
    rw [refCmp_rank (Msg.spec (h.ok _ (List.getElem_mem hj))).2.2.1 hm, sgn_pos]
    have h1 := h.srt.lt (by omega) hj c
    have h2 := bfAt_iff (k := m.key) h.srt (bfAt m.key l) (by omega)
    omega
  by_cases e : ∃ hi : bfAt m.key l < l.length, l[bfAt m.key l].key = m.key
  · obtain ⟨hi, e⟩ := e
    rw [add_hit h.srt m hi e]
    have h0 : refCmp l[bfAt m.key l].key m.key = 0 := by rw [refCmp_rank (Msg.spec (h.ok _ (List.getElem_mem hi))).2.2.1 hm, e, sgn_same]
    generalize bfAt m.key l = p at hi e h0 hlo hhi hple ⊢
    refine wB ?_
    refine AW_go (Go2.token 5 5 28 73 rfl rfl) ?_
    refine AW_loopI (fun j : Nat => ⟨[(0, msgsA l), (3, .ptr 3 0 []), (5, .sl (some 5) 29 ((outM l p (p + 1) [composeM l[p] m] j).map Msg.av)), (6, boolA (decide (p < j))), (7, intA j)], [(3, .var m.av), (5, .tail 73 29 (outM l p (p + 1) [composeM l[p] m] j).length)]⟩) (fun j => j ≤ l.length) (fun j => l.length - j) 0 (Nat.zero_le _) (by rw [outM_zero, decide_eq_false (Nat.not_lt_zero p)]; (refine Go2.sub ⟨?_, ?_, ?_⟩ <;> repeat' (first | exact True.intro | rfl | apply And.intro))) (fun j hj => ?_)
    have hol := outM_len (l := l) (p := p) (q := p + 1) (new := [composeM l[p] m]) j (by simp)
    by_cases c : j < l.length
    · have d3 := acall Try.func76 (a_refcmp l[j].key m.key) (by decide +kernel) (by decide +kernel)
      rcases Nat.lt_trichotomy j p with c1 | c1 | c1
      · have hc := hlo j c c1
        have hs := outM_lo (new := [composeM l[p] m]) (Nat.le_succ p) c1 c
        refine wB ?_
        refine ⟨j + 1, c, by omega, ?_⟩
        rw [hs, show decide (p < j + 1) = decide (p < j) from by rw [decide_eq_false (by omega), decide_eq_false (by omega)]]
        (refine Go2.sub ⟨?_, ?_, ?_⟩ <;> repeat' (first | exact True.intro | rfl | apply And.intro))
      · obtain rfl : j = p := c1
        have hs := outM_hit (new := [composeM l[j] m]) c
        have d4 := acall Try.func80 (a_refcompose l[j] m) (by decide +kernel) (by decide +kernel)
        refine wB ?_
        refine ⟨j + 1, c, by omega, ?_⟩
        rw [hs, decide_eq_true (Nat.lt_succ_self j)]
        (refine Go2.sub ⟨?_, ?_, ?_⟩ <;> repeat' (first | exact True.intro | rfl | apply And.intro))
      · have hc := hhi j c c1
        have hb : (!decide (p < j)) = false := by simp; omega
        have hs := outM_hi (new := [composeM l[p] m]) (show p + 1 ≤ j by omega) c1 c
        refine wB ?_
        refine ⟨j + 1, c, by omega, ?_⟩
        rw [hs, show decide (p < j + 1) = decide (p < j) from by rw [decide_eq_true (by omega), decide_eq_true (by omega)]]
        (refine Go2.sub ⟨?_, ?_, ?_⟩ <;> repeat' (first | exact True.intro | rfl | apply And.intro))
    · obtain rfl : j = l.length := by omega
      have hb : (!decide (p < l.length)) = false := by simp; omega
      rw [← outM_end hi]
      refine wB ?_
      exact fin ⟨res_sl rfl, trivial⟩
  · have hn : ∀ hi : bfAt m.key l < l.length, l[bfAt m.key l].key ≠ m.key := fun hi e' => e ⟨hi, e'⟩
    rw [add_no h m hm hn]
    have h0 : ∀ hi : bfAt m.key l < l.length, 0 < refCmp l[bfAt m.key l].key m.key := fun hi => by
      have ho := (Msg.spec (h.ok _ (List.getElem_mem hi))).2.2.1
      rw [refCmp_rank ho hm, sgn_pos]
      have h1 := (bfAt_iff (k := m.key) h.srt _ hi)
      have h2 : l[bfAt m.key l].key.rank ≠ m.key.rank := fun e' => hn hi ((rank_inj ho hm).1 e')
      omega
    generalize bfAt m.key l = p at h0 hlo hhi hple hn ⊢
    refine wB ?_
    refine AW_go (Go2.token 5 5 28 73 rfl rfl) ?_
    refine AW_loopI (fun j : Nat => ⟨[(0, msgsA l), (3, .ptr 3 0 []), (5, .sl (some 5) 29 ((outM l p p [m] j).map Msg.av)), (6, boolA (decide (p < j))), (7, intA j)], [(3, .var m.av), (5, .tail 73 29 (outM l p p [m] j).length)]⟩) (fun j => j ≤ l.length) (fun j => l.length - j) 0 (Nat.zero_le _) (by rw [outM_zero, decide_eq_false (Nat.not_lt_zero p)]; (refine Go2.sub ⟨?_, ?_, ?_⟩ <;> repeat' (first | exact True.intro | rfl | apply And.intro))) (fun j hj => ?_)
    have hol := outM_len (l := l) (p := p) (q := p) (new := [m]) j (by simp)
    by_cases c : j < l.length
    · have d3 := acall Try.func76 (a_refcmp l[j].key m.key) (by decide +kernel) (by decide +kernel)
      rcases Nat.lt_trichotomy j p with c1 | c1 | c1
      · have hc := hlo j c c1
        have hs := outM_lo (new := [m]) (Nat.le_refl p) c1 c
        refine wB ?_
        refine ⟨j + 1, c, by omega, ?_⟩
        rw [hs, show decide (p < j + 1) = decide (p < j) from by rw [decide_eq_false (by omega), decide_eq_false (by omega)]]
        (refine Go2.sub ⟨?_, ?_, ?_⟩ <;> repeat' (first | exact True.intro | rfl | apply And.intro))
      · obtain rfl : j = p := c1
        have hs := outM_no (new := [m]) c
        have hc := h0 c
        have hb : (!decide (j < j)) = true := by simp
        have hn1 : (outM l j j [m] j ++ [m]).length ≤ 2 * l.length + 2 := by simp; omega
        refine wB ?_
        refine ⟨j + 1, c, by omega, ?_⟩
        rw [hs, decide_eq_true (Nat.lt_succ_self j)]
        (refine Go2.sub ⟨?_, ?_, ?_⟩ <;> repeat' (first | exact True.intro | rfl | apply And.intro))
      · have hc := hhi j c c1
        have hb : (!decide (p < j)) = false := by simp; omega
        have hs := outM_hi (new := [m]) (show p ≤ j by omega) c1 c
        refine wB ?_
        refine ⟨j + 1, c, by omega, ?_⟩
        rw [hs, show decide (p < j + 1) = decide (p < j) from by rw [decide_eq_true (by omega), decide_eq_true (by omega)]]
        (refine Go2.sub ⟨?_, ?_, ?_⟩ <;> repeat' (first | exact True.intro | rfl | apply And.intro))
    · obtain rfl : j = l.length := by omega
      by_cases e : p < l.length
      · have hb : (!decide (p < l.length)) = false := by simp; omega
        rw [← outM_end e]
        refine wB ?_
        exact fin ⟨res_sl rfl, trivial⟩
      · have hb : (!decide (p < l.length)) = true := by simp; omega
        have hs := outM_end' (new := [m]) (show p = l.length by omega) (Nat.le_refl p)
        rw [← hs]
        refine wB ?_
        exact fin ⟨res_sl rfl, trivial⟩
set_option maxRecDepth 100000 in
set_option maxHeartbeats 8000000 in
theorem a_ref06bytes (l : List Msg) (hl : l.length ≤ 100000000) : AFn Try.prog 56 [msgsA l] (intA (bSum l)) := by
  refine AFn_intro Try.func56 rfl Try.ntmps56 rfl (by simp) [_] rfl fun E hE => ?_
  refine wB ?_
  refine AW_loopI (fun j : Nat => ⟨[(0, msgsA l), (3, intA (bSum (l.take j))), (4, intA j)], []⟩) (fun j => j ≤ l.length) (fun j => l.length - j) 0 (Nat.zero_le _) (by (refine Go2.sub ⟨?_, ?_, ?_⟩ <;> repeat' (first | exact True.intro | rfl | apply And.intro))) (fun j hj => ?_)
  have hb := bSum_le (l.take j)
  rw [List.length_take] at hb
  by_cases c : j < l.length
  · have hs := bSum_snoc l j c
    have he := l[j].size_le
    have d1 := acall Try.func81 (a_ref05bytes l[j]) (by decide +kernel) (by decide +kernel)
    refine wB ?_
    refine ⟨j + 1, c, by omega, ?_⟩
    rw [hs]
    (refine Go2.sub ⟨?_, ?_, ?_⟩ <;> repeat' (first | exact True.intro | rfl | apply And.intro))
  · obtain rfl : j = l.length := by omega
    rw [List.take_length]
    refine wB ?_
    exact fin ⟨res_of rfl rfl rfl, trivial⟩
end Go.Proofs.Ytcmdhpinelnclaa

namespace Go.Proofs.Ytcmdhpinelnclaa
open Go Go.RowKit
set_option linter.unusedVariables false
set_option linter.unusedSimpArgs false
set_option maxRecDepth 100000

def opM (o : Option Msg) : Msg × Bool := match o with
  | some m => (m, true)
  | none => (Msg.zero, false)
/-- messages of a buffer, by neighbours -/
def MsgsOk (cmp : Key → Key → Int) (l : List Msg) : Prop := ∀ j (h : j < l.length), l[j].ok = true ∧ ∀ i (hi : i + 1 = j), cmp (l[i]'(by omega)).key l[j].key < 0
noncomputable def msgsOkB (cmp : Key → Key → Int) (l : List Msg) : Bool := @decide (MsgsOk cmp l) (Classical.propDecidable _)
theorem msgsOkB_true {cmp : Key → Key → Int} {l : List Msg} (h : MsgsOk cmp l) : msgsOkB cmp l = true := by unfold msgsOkB; exact @decide_eq_true _ (Classical.propDecidable _) h
theorem msgsOkB_false {cmp : Key → Key → Int} {l : List Msg} (h : ¬ MsgsOk cmp l) : msgsOkB cmp l = false := by unfold msgsOkB; exact @decide_eq_false _ (Classical.propDecidable _) h
theorem msgsOk_ref (l : List Msg) : MsgsOk refCmp l ↔ MsgsOk keyCmp l := by
  constructor <;>
  · intro h j hj
    obtain ⟨h1, h3⟩ := h j hj
    refine ⟨h1, fun i hi => ?_⟩
    have := h3 i hi
    first
      | rwa [refCmp_key (Msg.spec (h i (by omega)).1).2.2.1 (Msg.spec h1).2.2.1] at this
      | rwa [refCmp_key (Msg.spec (h i (by omega)).1).2.2.1 (Msg.spec h1).2.2.1]
theorem msgsOkB_ref (l : List Msg) : msgsOkB refCmp l = msgsOkB keyCmp l := by
  by_cases c : MsgsOk keyCmp l
  · rw [msgsOkB_true c, msgsOkB_true ((msgsOk_ref l).2 c)]
  · rw [msgsOkB_false c, msgsOkB_false (fun h => c ((msgsOk_ref l).1 h))]
theorem Bf.msgs {l : List Msg} (h : Bf l) : MsgsOk keyCmp l := fun j hj => ⟨h.ok _ (List.getElem_mem hj), fun i hi => by
  rw [keyCmp_rank, sgn_neg]; exact h.srt.lt (by omega) hj (by omega)⟩
theorem msgsOk_nok {cmp : Key → Key → Int} {l : List Msg} {j : Nat} (h : j < l.length) (e : l[j].ok = false) : ¬ MsgsOk cmp l := fun k => by
  have := (k j h).1
  rw [e] at this; cases this
theorem msgsOk_noc {cmp : Key → Key → Int} {l : List Msg} {i : Nat} (h : i + 1 < l.length) (e : 0 ≤ cmp l[i].key l[i + 1].key) : ¬ MsgsOk cmp l := fun k => by
  have := (k (i + 1) h).2 i rfl
  omega
theorem res_yes {P : Program} {S : St} {t : Nat} {p : Prop} [Decidable p] (hx : S.t t = some (.v (.bool (decide p)))) (hp : p) : Res1 P S (.tmp t) (boolA true) := res_of (by rw [hx, decide_eq_true hp]; rfl) rfl rfl
theorem res_no {P : Program} {S : St} {t : Nat} {p : Prop} [Decidable p] (hx : S.t t = some (.v (.bool (decide p)))) (hp : ¬ p) : Res1 P S (.tmp t) (boolA false) := res_of (by rw [hx, decide_eq_false hp]; rfl) rfl rfl
attribute [local irreducible] OpOK AWops AW CondB Go2 AFn thenA inBlockA noGotoA orderOk wantedA
set_option maxRecDepth 100000 in
set_option maxHeartbeats 4000000 in
theorem a_msgcheck (m : Msg) : AFn Try.prog 130 [m.av] (boolA m.ok) := by
  refine AFn_intro Try.func130 rfl Try.ntmps130 rfl (by simp) [_] rfl fun E hE => ?_
  have c1 := acall Try.func115 (a_keycheck m.key) (by decide +kernel) (by decide +kernel)
  have c2 := acall Try.func116 (a_vlcheck m.val) (by decide +kernel) (by decide +kernel)
  by_cases p : m.kind = 1
  · cases hk : m.key.ok with
    | false =>
      rw [Msg.nok hk]
      rw [hk] at c1
      refine wC ?_
      exact fin ⟨res_of rfl rfl rfl, trivial⟩
    | true =>
      rw [hk] at c1
      cases hv : m.val.ok with
      | false =>
        rw [Msg.nov p hv]
        rw [hv] at c2
        refine wC ?_
        exact fin ⟨res_of rfl rfl rfl, trivial⟩
      | true =>
        rw [Msg.okPut p hk hv]
        rw [hv] at c2
        refine wC ?_
        exact fin ⟨res_of rfl rfl rfl, trivial⟩
  by_cases p2 : m.kind = 2
  · cases hk : m.key.ok with
    | false =>
      rw [Msg.nok hk]
      rw [hk] at c1
      refine wC ?_
      exact fin ⟨res_of rfl rfl rfl, trivial⟩
    | true =>
      rw [hk] at c1
      by_cases z : m.val = Vl.zero
      · rw [Msg.okDel p2 hk z]
        by_cases ha : D64 m.add = 0
        · rw [decide_eq_true ha]
          refine wC ?_
          exact fin ⟨res_yes rfl z, trivial⟩
        · rw [decide_eq_false ha]
          refine wC ?_
          exact fin ⟨res_of rfl rfl rfl, trivial⟩
      · rw [Msg.noz p z]
        by_cases ha : D64 m.add = 0
        · refine wC ?_
          exact fin ⟨res_no rfl z, trivial⟩
        · refine wC ?_
          exact fin ⟨res_of rfl rfl rfl, trivial⟩
  by_cases p3 : m.kind = 3
  · cases hk : m.key.ok with
    | false =>
      rw [Msg.nok hk]
      rw [hk] at c1
      refine wC ?_
      exact fin ⟨res_of rfl rfl rfl, trivial⟩
    | true =>
      rw [hk] at c1
      by_cases z : m.val = Vl.zero
      · rw [Msg.okAdd p3 hk z]
        refine wC ?_
        exact fin ⟨res_yes rfl z, trivial⟩
      · rw [Msg.noz p z]
        refine wC ?_
        exact fin ⟨res_no rfl z, trivial⟩
  · have hno : m.ok = false := by
      by_cases h1 : m.kind < 1
      · exact Msg.no1 h1
      · exact Msg.no3 (by omega)
    rw [hno]
    refine wC ?_
    exact fin ⟨res_of rfl rfl rfl, trivial⟩
set_option maxRecDepth 100000 in
set_option maxHeartbeats 4000000 in
theorem a_msgbytes (m : Msg) : AFn Try.prog 128 [m.av] (intA m.size) := by
  refine AFn_intro Try.func128 rfl Try.ntmps128 rfl (by simp) [_] rfl fun E hE => ?_
  have c1 := acall Try.func130 (a_msgcheck m) (by decide +kernel) (by decide +kernel)
  unfold Msg.size
  cases hk : m.ok with
  | false =>
    rw [if_neg (by simp)]
    rw [hk] at c1
    have k' : (!false) = true := rfl
    refine wC ?_
    exact fin ⟨res_of rfl rfl rfl, trivial⟩
  | true =>
    rw [if_pos rfl]
    rw [hk] at c1
    have k' : (!true) = false := rfl
    obtain ⟨q1, q2, q3, q4, _⟩ := Msg.spec hk
    have n1 := Key.n_le q3
    have n2 := Vl.n_le q4
    by_cases p : m.kind = 1
    · rw [if_pos p, show 11 + m.key.n + m.val.n = 10 + m.key.n + (1 + m.val.n) from by omega]
      refine wC ?_
      exact fin ⟨res_of rfl rfl rfl, trivial⟩
    · rw [if_neg p]
      by_cases p3 : m.kind = 3
      · rw [if_pos p3, show 18 + m.key.n = 10 + m.key.n + 8 from by omega]
        refine wC ?_
        exact fin ⟨res_of rfl rfl rfl, trivial⟩
      · rw [if_neg p3]
        refine wC ?_
        exact fin ⟨res_of rfl rfl rfl, trivial⟩
end Go.Proofs.Ytcmdhpinelnclaa

namespace Go.Proofs.Ytcmdhpinelnclaa
open Go Go.RowKit
set_option linter.unusedVariables false
set_option linter.unusedSimpArgs false
set_option maxRecDepth 100000

attribute [local irreducible] OpOK AWops AW CondB Go2 AFn thenA inBlockA noGotoA orderOk wantedA
set_option maxRecDepth 100000 in
set_option maxHeartbeats 8000000 in
theorem a_bufbytes (l : List Msg) (hl : l.length ≤ 100000000) : AFn Try.prog 125 [msgsA l] (intA (bSum l)) := by
  refine AFn_intro Try.func125 rfl Try.ntmps125 rfl (by simp) [_] rfl fun E hE => ?_
  refine wB ?_
  refine AW_loopI (fun j : Nat => ⟨[(6, msgsA l), (7, intA l.length), (8, intA j), (3, intA (bSum (l.take j)))], []⟩) (fun j => j ≤ l.length) (fun j => l.length - j) 0 (Nat.zero_le _) (by (refine Go2.sub ⟨?_, ?_, ?_⟩ <;> repeat' (first | exact True.intro | rfl | apply And.intro))) (fun j hj => ?_)
  have hb := bSum_le (l.take j)
  rw [List.length_take] at hb
  by_cases c : j < l.length
  · have hs := bSum_snoc l j c
    have he := l[j].size_le
    have d1 := acall Try.func128 (a_msgbytes l[j]) (by decide +kernel) (by decide +kernel)
    refine wB ?_
    refine ⟨j + 1, c, by omega, ?_⟩
    rw [hs]
    (refine Go2.sub ⟨?_, ?_, ?_⟩ <;> repeat' (first | exact True.intro | rfl | apply And.intro))
  · obtain rfl : j = l.length := by omega
    rw [List.take_length]
    refine wB ?_
    exact fin ⟨res_of rfl rfl rfl, trivial⟩
end Go.Proofs.Ytcmdhpinelnclaa

namespace Go.Proofs.Ytcmdhpinelnclaa
open Go Go.RowKit
set_option linter.unusedVariables false
set_option linter.unusedSimpArgs false
set_option maxRecDepth 100000

/-! ### parts -/
def pFrom (cuts : List Key) (l : List Msg) : Nat → Nat
  | 0 => 0
  | m + 1 => match cuts[m]? with
    | some k => bfAt k l
    | none => 0
def pTo (cuts : List Key) (l : List Msg) (n : Nat) : Nat := match cuts[n]? with
  | some k => bfAt k l
  | none => l.length
def bfPart (l : List Msg) (cuts : List Key) (n : Nat) : List Msg := (l.take (pTo cuts l n)).drop (pFrom cuts l n)
def keepLo (cuts : List Key) (m : Msg) : Nat → Bool
  | 0 => true
  | i + 1 => match cuts[i]? with
    | some k => decide (k.rank ≤ m.key.rank)
    | none => true
def keepHi (cuts : List Key) (m : Msg) (n : Nat) : Bool := match cuts[n]? with
  | some k => decide (m.key.rank < k.rank)
  | none => true
/-! ### batches -/
def batchF (l : List Msg) : Nat → Nat → Nat
  | 0, a => a
  | f + 1, a => if a < l.length ∧ bSum (l.take (a + 1)) ≤ 96 then batchF l f (a + 1) else a
def batchN (l : List Msg) : Nat := batchF l l.length 0
/-! ### what is left -/
def goneP (gone : List Msg) (m : Msg) : Bool := !(bfGet m.key gone).isSome
def bfLess (l gone : List Msg) : List Msg := l.filter (goneP gone)
section
variable {E : Env} {nt : Nat} {ops : Array Oper} {T : Nat → Option AV} {H : Hp} {d : Option Nat} {ty : TypeId} {pos : String} {af : Array Edge} {gd : Option (Nat × Bool)}
end
attribute [local irreducible] OpOK AWops AW CondB Go2 AFn thenA inBlockA noGotoA orderOk wantedA
end Go.Proofs.Ytcmdhpinelnclaa

namespace Go.Proofs.Ytcmdhpinelnclaa
open Go Go.RowKit
set_option linter.unusedVariables false
set_option linter.unusedSimpArgs false
set_option maxRecDepth 100000

theorem kids_no (ks : List Int) (cs : List Key) (cmp : Key → Key → Int) (j : Nat) (h : j < ks.length) (hJ : kidsFrom ks 0 ks = kidsFrom ks j (ks.drop j)) (e : ks[j] < 1 ∨ 256 ≤ ks[j] ∨ idxOf ks ks[j] ≠ (j : Int)) : fanOkBy cmp ks cs = false := by
  unfold fanOkBy
  rw [hJ, kidsFrom_step ks ks j h]
  rcases e with e | e | e
  · rw [show decide (1 ≤ ks[j]) = false from decide_eq_false (by omega)]; simp
  · rw [show decide (ks[j] < 256) = false from decide_eq_false (by omega)]; simp
  · rw [show decide (idxOf ks ks[j] = (j : Int)) = false from decide_eq_false e]; simp
theorem kids_on (ks : List Int) (j : Nat) (h : j < ks.length) (hJ : kidsFrom ks 0 ks = kidsFrom ks j (ks.drop j)) (e1 : ¬ ks[j] < 1) (e2 : ¬ 256 ≤ ks[j]) (e3 : idxOf ks ks[j] = (j : Int)) : kidsFrom ks 0 ks = kidsFrom ks (j + 1) (ks.drop (j + 1)) := by
  rw [hJ, kidsFrom_step ks ks j h, show decide (1 ≤ ks[j]) = true from decide_eq_true (by omega), show decide (ks[j] < 256) = true from decide_eq_true (by omega), show decide (idxOf ks ks[j] = (j : Int)) = true from decide_eq_true e3]
  simp
theorem fan_no (ks : List Int) (cs : List Key) (cmp : Key → Key → Int) (e : ks.length < 2 ∨ 4 < ks.length ∨ cs.length + 1 ≠ ks.length) : fanOkBy cmp ks cs = false := by
  unfold fanOkBy
  rcases e with e | e | e
  · rw [show decide (2 ≤ ks.length) = false from decide_eq_false (by omega)]; simp
  · rw [show decide (ks.length ≤ 4) = false from decide_eq_false (by omega)]; simp
  · rw [show decide (cs.length + 1 = ks.length) = false from decide_eq_false e]; simp
theorem fan_on (ks : List Int) (cs : List Key) (cmp : Key → Key → Int) (h2 : 2 ≤ ks.length) (h4 : ks.length ≤ 4) (hc : cs.length + 1 = ks.length) (hk : kidsFrom ks 0 ks = true) : fanOkBy cmp ks cs = risesBy cmp none cs := by
  unfold fanOkBy
  rw [decide_eq_true h2, decide_eq_true h4, decide_eq_true hc, hk]; simp
theorem rise_no0 (cmp : Key → Key → Int) (cs : List Key) (j : Nat) (h : j < cs.length) (hJ : risesBy cmp none cs = risesBy cmp (ahead cs j) (cs.drop j)) (e : cs[j].ok = false) : risesBy cmp none cs = false := by
  cases j with
  | zero => rw [hJ, risesBy_step0 cmp cs h, e]; rfl
  | succ m => rw [hJ, risesBy_step cmp cs m h, e]; rfl
theorem rise_no1 (cmp : Key → Key → Int) (cs : List Key) (m : Nat) (h : m + 1 < cs.length) (hJ : risesBy cmp none cs = risesBy cmp (ahead cs (m + 1)) (cs.drop (m + 1))) (e : 0 ≤ cmp cs[m] cs[m + 1]) : risesBy cmp none cs = false := by
  rw [hJ, risesBy_step cmp cs m h, show decide (cmp cs[m] cs[m + 1] < 0) = false from decide_eq_false (by omega)]; simp
theorem rise_on0 (cmp : Key → Key → Int) (cs : List Key) (h : 0 < cs.length) (hJ : risesBy cmp none cs = risesBy cmp (ahead cs 0) (cs.drop 0)) (e : cs[0].ok = true) : risesBy cmp none cs = risesBy cmp (ahead cs 1) (cs.drop 1) := by
  rw [hJ, risesBy_step0 cmp cs h, e]; simp
theorem rise_on1 (cmp : Key → Key → Int) (cs : List Key) (m : Nat) (h : m + 1 < cs.length) (hJ : risesBy cmp none cs = risesBy cmp (ahead cs (m + 1)) (cs.drop (m + 1))) (e : cs[m + 1].ok = true) (c : ¬ 0 ≤ cmp cs[m] cs[m + 1]) : risesBy cmp none cs = risesBy cmp (ahead cs (m + 2)) (cs.drop (m + 2)) := by
  rw [hJ, risesBy_step cmp cs m h, e, show decide (cmp cs[m] cs[m + 1] < 0) = true from decide_eq_true (by omega)]; simp
attribute [local irreducible] OpOK AWops AW CondB Go2 AFn thenA inBlockA noGotoA orderOk wantedA
set_option maxRecDepth 100000 in
theorem a_index (l : List Int) (x : Int) (hl : l.length ≤ 1000000000000000000) : AFn Try.prog 131 [intsA l, intA x] (intA (idxOf l x)) := by
  refine AFn_intro Try.func131 rfl Try.ntmps131 rfl (by simp) [_] rfl fun E hE => ?_
  refine wO ?_
  refine AW_loopI (fun j : Nat => ⟨[(0, intsA l), (1, intA x), (7, intA l.length), (8, intA j)], []⟩) (fun j => j ≤ l.length ∧ idxOf l x = idxFrom x j (l.drop j)) (fun j => l.length - j) 0 ⟨Nat.zero_le _, rfl⟩ (by (refine Go2.sub ⟨?_, ?_, ?_⟩ <;> repeat' (first | exact True.intro | rfl | apply And.intro))) (fun j hj => ?_)
  obtain ⟨hj, hJ⟩ := hj
  by_cases hlt : j < l.length
  · by_cases he : x = l[j]
    · rw [hJ, idxFrom_hit l x j hlt he.symm]
      refine wO ?_
      exact fin ⟨res_of rfl rfl rfl, trivial⟩
    · refine wO ?_
      refine ⟨j + 1, ⟨hlt, by rw [hJ, idxFrom_miss l x j hlt (fun h => he h.symm)]⟩, by omega, ?_⟩
      (refine Go2.sub ⟨?_, ?_, ?_⟩ <;> repeat' (first | exact True.intro | rfl | apply And.intro))
  · rw [hJ, idxFrom_end l x j (by omega)]
    refine wO ?_
    exact fin ⟨res_of rfl rfl rfl, trivial⟩
set_option maxRecDepth 100000 in
theorem a_place (l : List Int) (x : Int) (hl : l.length ≤ 1000000000000000000) : AFn Try.prog 129 [intsA l, intA x] (intA (idxOf l x)) := by
  refine AFn_intro Try.func129 rfl Try.ntmps129 rfl (by simp) [_] rfl fun E hE => ?_
  have c := acall Try.func131 (a_index l x hl) (by decide +kernel) (by decide +kernel)
  refine wO ?_
  exact fin ⟨res_of rfl rfl rfl, trivial⟩
set_option maxRecDepth 100000 in
theorem a_refplace (l : List Int) (x : Int) (hl : l.length ≤ 1000000000000000000) : AFn Try.prog 88 [intsA l, intA x] (intA (idxOf l x)) := by
  refine AFn_intro Try.func88 rfl Try.ntmps88 rfl (by simp) [_] rfl fun E hE => ?_
  refine wO ?_
  refine AW_loopI (fun j : Nat => ⟨[(0, intsA l), (1, intA x), (5, intA j)], []⟩) (fun j => j ≤ l.length ∧ idxOf l x = idxFrom x j (l.drop j)) (fun j => l.length - j) 0 ⟨Nat.zero_le _, rfl⟩ (by (refine Go2.sub ⟨?_, ?_, ?_⟩ <;> repeat' (first | exact True.intro | rfl | apply And.intro))) (fun j hj => ?_)
  obtain ⟨hj, hJ⟩ := hj
  by_cases hlt : j < l.length
  · by_cases he : l[j] = x
    · rw [hJ, idxFrom_hit l x j hlt he]
      refine wO ?_
      exact fin ⟨res_of rfl rfl rfl, trivial⟩
    · refine wO ?_
      refine ⟨j + 1, ⟨hlt, by rw [hJ, idxFrom_miss l x j hlt he]⟩, by omega, ?_⟩
      (refine Go2.sub ⟨?_, ?_, ?_⟩ <;> repeat' (first | exact True.intro | rfl | apply And.intro))
  · rw [hJ, idxFrom_end l x j (by omega)]
    refine wO ?_
    exact fin ⟨res_of rfl rfl rfl, trivial⟩
set_option maxRecDepth 100000 in
set_option maxHeartbeats 4000000 in
theorem a_fancheck (ks : List Int) (cs : List Key) : AFn Try.prog 126 [intsA ks, keysA cs] (boolA (fanOkBy keyCmp ks cs)) := by
  refine AFn_intro Try.func126 rfl Try.ntmps126 rfl (by simp) [_] rfl fun E hE => ?_
  by_cases c1 : ks.length < 2
  · rw [fan_no ks cs keyCmp (by omega)]
    refine wO ?_
    exact fin ⟨res_of rfl rfl rfl, trivial⟩
  by_cases c2 : 4 < ks.length
  · rw [fan_no ks cs keyCmp (by omega)]
    refine wO ?_
    exact fin ⟨res_of rfl rfl rfl, trivial⟩
  by_cases c3 : cs.length + 1 = ks.length
  · refine wO ?_
    refine AW_loopI (fun j : Nat => ⟨[(0, intsA ks), (1, keysA cs), (25, intsA ks), (26, intA ks.length), (27, intA j)], []⟩) (fun j => j ≤ ks.length ∧ kidsFrom ks 0 ks = kidsFrom ks j (ks.drop j)) (fun j => ks.length - j) 0 ⟨Nat.zero_le _, rfl⟩ (by (refine Go2.sub ⟨?_, ?_, ?_⟩ <;> repeat' (first | exact True.intro | rfl | apply And.intro))) (fun j hj => ?_)
    obtain ⟨hj, hJ⟩ := hj
    by_cases hlt : j < ks.length
    · have cp := acall Try.func129 (a_place ks ks[j] (by omega)) (by decide +kernel) (by decide +kernel)
      by_cases e1 : ks[j] < 1
      · rw [kids_no ks cs keyCmp j hlt hJ (by omega)]
        refine wO ?_
        exact fin ⟨res_of rfl rfl rfl, trivial⟩
      by_cases e2 : 256 ≤ ks[j]
      · rw [kids_no ks cs keyCmp j hlt hJ (by omega)]
        refine wO ?_
        exact fin ⟨res_of rfl rfl rfl, trivial⟩
      by_cases e3 : idxOf ks ks[j] = (j : Int)
      · refine wO ?_
        refine ⟨j + 1, ⟨hlt, kids_on ks j hlt hJ e1 e2 e3⟩, by omega, ?_⟩
        (refine Go2.sub ⟨?_, ?_, ?_⟩ <;> repeat' (first | exact True.intro | rfl | apply And.intro))
      · rw [kids_no ks cs keyCmp j hlt hJ (by omega)]
        refine wO ?_
        exact fin ⟨res_of rfl rfl rfl, trivial⟩
    · rw [kidsFrom_end ks ks j (by omega)] at hJ
      rw [fan_on ks cs keyCmp (by omega) (by omega) c3 hJ]
      refine wO ?_
      refine AW_loopI (fun j : Nat => ⟨[(1, keysA cs), (46, keysA cs), (47, intA cs.length), (48, intA j)], []⟩) (fun j => j ≤ cs.length ∧ risesBy keyCmp none cs = risesBy keyCmp (ahead cs j) (cs.drop j)) (fun j => cs.length - j) 0 ⟨Nat.zero_le _, rfl⟩ (by (refine Go2.sub ⟨?_, ?_, ?_⟩ <;> repeat' (first | exact True.intro | rfl | apply And.intro))) (fun j hj => ?_)
      obtain ⟨hj, hJ⟩ := hj
      by_cases hlt : j < cs.length
      · have ck := acall Try.func115 (a_keycheck cs[j]) (by decide +kernel) (by decide +kernel)
        cases hko : cs[j].ok with
        | false =>
          have hk' : (!cs[j].ok) = true := by rw [hko]; rfl
          rw [rise_no0 keyCmp cs j hlt hJ hko]
          refine wO ?_
          exact fin ⟨res_of rfl rfl rfl, trivial⟩
        | true =>
          have hk' : (!cs[j].ok) = false := by rw [hko]; rfl
          cases j with
          | zero =>
            refine wO ?_
            refine ⟨1, ⟨hlt, rise_on0 keyCmp cs hlt hJ hko⟩, by omega, ?_⟩
            (refine Go2.sub ⟨?_, ?_, ?_⟩ <;> repeat' (first | exact True.intro | rfl | apply And.intro))
          | succ m =>
            have hm : m < cs.length := by omega
            have cc := acall Try.func117 (a_keycmp cs[m] cs[m + 1]) (by decide +kernel) (by decide +kernel)
            by_cases c : 0 ≤ keyCmp cs[m] cs[m + 1]
            · rw [rise_no1 keyCmp cs m hlt hJ c]
              refine wO ?_
              exact fin ⟨res_of rfl rfl rfl, trivial⟩
            · refine wO ?_
              refine ⟨m + 2, ⟨hlt, rise_on1 keyCmp cs m hlt hJ hko c⟩, by omega, ?_⟩
              (refine Go2.sub ⟨?_, ?_, ?_⟩ <;> repeat' (first | exact True.intro | rfl | apply And.intro))
      · rw [risesBy_end keyCmp cs _ j (by omega)] at hJ
        rw [hJ]
        refine wO ?_
        exact fin ⟨res_of rfl rfl rfl, trivial⟩
  · rw [fan_no ks cs keyCmp (by omega)]
    refine wO ?_
    exact fin ⟨res_of rfl rfl rfl, trivial⟩
set_option maxRecDepth 100000 in
set_option maxHeartbeats 4000000 in
theorem a_reffancheck (ks : List Int) (cs : List Key) : AFn Try.prog 72 [intsA ks, keysA cs] (boolA (fanOkBy refCmp ks cs)) := by
  refine AFn_intro Try.func72 rfl Try.ntmps72 rfl (by simp) [_] rfl fun E hE => ?_
  by_cases c1 : ks.length < 2
  · rw [fan_no ks cs refCmp (by omega)]
    refine wO ?_
    exact fin ⟨res_of rfl rfl rfl, trivial⟩
  by_cases c2 : 4 < ks.length
  · rw [fan_no ks cs refCmp (by omega)]
    refine wO ?_
    exact fin ⟨res_of rfl rfl rfl, trivial⟩
  by_cases c3 : cs.length + 1 = ks.length
  · refine wO ?_
    refine AW_loopI (fun j : Nat => ⟨[(0, intsA ks), (1, keysA cs), (5, intA j)], []⟩) (fun j => j ≤ ks.length ∧ kidsFrom ks 0 ks = kidsFrom ks j (ks.drop j)) (fun j => ks.length - j) 0 ⟨Nat.zero_le _, rfl⟩ (by (refine Go2.sub ⟨?_, ?_, ?_⟩ <;> repeat' (first | exact True.intro | rfl | apply And.intro))) (fun j hj => ?_)
    obtain ⟨hj, hJ⟩ := hj
    by_cases hlt : j < ks.length
    · have cp := acall Try.func88 (a_refplace ks ks[j] (by omega)) (by decide +kernel) (by decide +kernel)
      by_cases e1 : ks[j] < 1
      · rw [kids_no ks cs refCmp j hlt hJ (by omega)]
        refine wO ?_
        exact fin ⟨res_of rfl rfl rfl, trivial⟩
      by_cases e2 : 256 ≤ ks[j]
      · rw [kids_no ks cs refCmp j hlt hJ (by omega)]
        refine wO ?_
        exact fin ⟨res_of rfl rfl rfl, trivial⟩
      by_cases e3 : idxOf ks ks[j] = (j : Int)
      · refine wO ?_
        refine ⟨j + 1, ⟨hlt, kids_on ks j hlt hJ e1 e2 e3⟩, by omega, ?_⟩
        (refine Go2.sub ⟨?_, ?_, ?_⟩ <;> repeat' (first | exact True.intro | rfl | apply And.intro))
      · rw [kids_no ks cs refCmp j hlt hJ (by omega)]
        refine wO ?_
        exact fin ⟨res_of rfl rfl rfl, trivial⟩
    · rw [kidsFrom_end ks ks j (by omega)] at hJ
      rw [fan_on ks cs refCmp (by omega) (by omega) c3 hJ]
      refine wO ?_
      refine AW_loopI (fun j : Nat => ⟨[(1, keysA cs), (6, intA j)], []⟩) (fun j => j ≤ cs.length ∧ risesBy refCmp none cs = risesBy refCmp (ahead cs j) (cs.drop j)) (fun j => cs.length - j) 0 ⟨Nat.zero_le _, rfl⟩ (by (refine Go2.sub ⟨?_, ?_, ?_⟩ <;> repeat' (first | exact True.intro | rfl | apply And.intro))) (fun j hj => ?_)
      obtain ⟨hj, hJ⟩ := hj
      by_cases hlt : j < cs.length
      · have ck := acall Try.func79 (a_refkeycheck cs[j]) (by decide +kernel) (by decide +kernel)
        cases hko : cs[j].ok with
        | false =>
          have hk' : (!cs[j].ok) = true := by rw [hko]; rfl
          rw [rise_no0 refCmp cs j hlt hJ hko]
          refine wO ?_
          exact fin ⟨res_of rfl rfl rfl, trivial⟩
        | true =>
          have hk' : (!cs[j].ok) = false := by rw [hko]; rfl
          cases j with
          | zero =>
            refine wO ?_
            refine ⟨1, ⟨hlt, rise_on0 refCmp cs hlt hJ hko⟩, by omega, ?_⟩
            (refine Go2.sub ⟨?_, ?_, ?_⟩ <;> repeat' (first | exact True.intro | rfl | apply And.intro))
          | succ m =>
            have hm : m < cs.length := by omega
            have cc := acall Try.func76 (a_refcmp cs[m] cs[m + 1]) (by decide +kernel) (by decide +kernel)
            by_cases c : 0 ≤ refCmp cs[m] cs[m + 1]
            · rw [rise_no1 refCmp cs m hlt hJ c]
              refine wO ?_
              exact fin ⟨res_of rfl rfl rfl, trivial⟩
            · refine wO ?_
              refine ⟨m + 2, ⟨hlt, rise_on1 refCmp cs m hlt hJ hko c⟩, by omega, ?_⟩
              (refine Go2.sub ⟨?_, ?_, ?_⟩ <;> repeat' (first | exact True.intro | rfl | apply And.intro))
      · rw [risesBy_end refCmp cs _ j (by omega)] at hJ
        rw [hJ]
        refine wO ?_
        exact fin ⟨res_of rfl rfl rfl, trivial⟩
  · rw [fan_no ks cs refCmp (by omega)]
    refine wO ?_
    exact fin ⟨res_of rfl rfl rfl, trivial⟩
end Go.Proofs.Ytcmdhpinelnclaa

namespace Go.Proofs.Ytcmdhpinelnclaa
open Go Go.RowKit
set_option linter.unusedVariables false
set_option linter.unusedSimpArgs false
set_option maxRecDepth 100000

def insKids (ks : List Int) (i : Nat) (id : Int) : List Int := ks.take (i + 1) ++ ([id] ++ ks.drop (i + 1))
def insCuts (cs : List Key) (at_ : Nat) (x : Key) : List Key := cs.take at_ ++ ([x] ++ cs.drop at_)
def fanIns (ks : List Int) (cs : List Key) (i : Int) (x : Key) (id : Int) : List Int × List Key :=
  if 0 ≤ i ∧ i < ks.length then (insKids ks i.toNat id, insCuts cs (min i.toNat cs.length) x) else (ks, cs)
attribute [local irreducible] OpOK AWops AW CondB Go2 AFn thenA inBlockA noGotoA orderOk wantedA
def fanHal (ks : List Int) (cs : List Key) : List Int × List Key × Key × List Int × List Key × Bool :=
  if ks.length = 4 ∧ cs.length = 3 then (ks.take 2, cs.take 1, cs.getD 1 Key.zero, ks.drop 2, cs.drop 2, true) else ([], [], Key.zero, [], [], false)
def fanHalA (h : List Int × List Key × Key × List Int × List Key × Bool) : AV := .tup [intsA h.1, keysA h.2.1, h.2.2.1.av, intsA h.2.2.2.1, keysA h.2.2.2.2.1, boolA h.2.2.2.2.2]
end Go.Proofs.Ytcmdhpinelnclaa

namespace Go.Proofs.Ytcmdhpinelnclaa
open Go Go.RowKit
set_option linter.unusedVariables false
set_option linter.unusedSimpArgs false
set_option maxRecDepth 100000

/-- the first j kids, with one more behind place i -/
def insK (ks : List Int) (i id : Int) (j : Nat) : List Int := if 0 ≤ i ∧ i < j then ks.take (i.toNat + 1) ++ ([id] ++ (ks.take j).drop (i.toNat + 1)) else ks.take j
/-- the first j pivots, with one more ahead of place i -/
def insC (cs : List Key) (m : Nat) (i : Int) (x : Key) (j : Nat) : List Key := if 0 ≤ i ∧ i < m ∧ i < j then cs.take i.toNat ++ ([x] ++ (cs.take j).drop i.toNat) else cs.take j
/-- the first places at which two rows are alike -/
theorem same_step {α : Type} [DecidableEq α] (a b : List α) (j : Nat) (h : j < a.length) (h' : j < b.length) (e : a[j] = b[j]) (k : a.take j = b.take j) : a.take (j + 1) = b.take (j + 1) := by
  rw [List.take_succ_eq_append_getElem h, List.take_succ_eq_append_getElem h', e, k]
theorem same_no {α : Type} [DecidableEq α] (a b : List α) (j : Nat) (h : j < a.length) (h' : j < b.length) (e : a[j] ≠ b[j]) : decide (a = b) = false := decide_eq_false fun k => e (by subst k; rfl)
attribute [local irreducible] OpOK AWops AW CondB Go2 AFn thenA inBlockA noGotoA orderOk wantedA
set_option maxRecDepth 100000 in
theorem a_sameInts (a b : List Int) (h1 : a.length ≤ 1000000000) : AFn Try.prog 40 [intsA a, intsA b] (boolA (decide (a = b))) := by
  refine AFn_intro Try.func40 rfl Try.ntmps40 rfl (by simp) [_] rfl fun E hE => ?_
  by_cases hl : a.length = b.length
  · refine wO ?_
    refine AW_loopI (fun j : Nat => ⟨[(0, intsA a), (1, intsA b), (5, intA j)], []⟩) (fun j => j ≤ a.length ∧ a.take j = b.take j) (fun j => a.length - j) 0 ⟨Nat.zero_le _, rfl⟩ (by (refine Go2.sub ⟨?_, ?_, ?_⟩ <;> repeat' (first | exact True.intro | rfl | apply And.intro))) (fun j hj => ?_)
    obtain ⟨hj, hJ⟩ := hj
    by_cases hlt : j < a.length
    · have hlt' : j < b.length := by omega
      by_cases h : a[j] = b[j]
      · have h' : ¬ a[j] ≠ b[j] := fun k => k h
        refine wO ?_
        refine ⟨j + 1, ⟨hlt, same_step a b j hlt hlt' h hJ⟩, by omega, ?_⟩
        (refine Go2.sub ⟨?_, ?_, ?_⟩ <;> repeat' (first | exact True.intro | rfl | apply And.intro))
      · have h' : a[j] ≠ b[j] := h
        rw [same_no a b j hlt hlt' h]
        refine wO ?_
        exact fin ⟨res_of rfl rfl rfl, trivial⟩
    · have : j = a.length := by omega
      subst this
      rw [List.take_length, hl, List.take_length] at hJ
      rw [decide_eq_true hJ]
      refine wO ?_
      exact fin ⟨res_of rfl rfl rfl, trivial⟩
  · rw [show decide (a = b) = false from decide_eq_false fun k => hl (by rw [k])]
    refine wO ?_
    exact fin ⟨res_of rfl rfl rfl, trivial⟩
set_option maxRecDepth 100000 in
theorem a_sameKeys (a b : List Key) (h1 : a.length ≤ 1000000000) : AFn Try.prog 41 [keysA a, keysA b] (boolA (decide (a = b))) := by
  refine AFn_intro Try.func41 rfl Try.ntmps41 rfl (by simp) [_] rfl fun E hE => ?_
  by_cases hl : a.length = b.length
  · refine wO ?_
    refine AW_loopI (fun j : Nat => ⟨[(0, keysA a), (1, keysA b), (5, intA j)], []⟩) (fun j => j ≤ a.length ∧ a.take j = b.take j) (fun j => a.length - j) 0 ⟨Nat.zero_le _, rfl⟩ (by (refine Go2.sub ⟨?_, ?_, ?_⟩ <;> repeat' (first | exact True.intro | rfl | apply And.intro))) (fun j hj => ?_)
    obtain ⟨hj, hJ⟩ := hj
    by_cases hlt : j < a.length
    · have hlt' : j < b.length := by omega
      by_cases h : a[j] = b[j]
      · have h' : ¬ a[j] ≠ b[j] := fun k => k h
        refine wO ?_
        refine ⟨j + 1, ⟨hlt, same_step a b j hlt hlt' h hJ⟩, by omega, ?_⟩
        (refine Go2.sub ⟨?_, ?_, ?_⟩ <;> repeat' (first | exact True.intro | rfl | apply And.intro))
      · have h' : a[j] ≠ b[j] := h
        rw [same_no a b j hlt hlt' h]
        refine wO ?_
        exact fin ⟨res_of rfl rfl rfl, trivial⟩
    · have : j = a.length := by omega
      subst this
      rw [List.take_length, hl, List.take_length] at hJ
      rw [decide_eq_true hJ]
      refine wO ?_
      exact fin ⟨res_of rfl rfl rfl, trivial⟩
  · rw [show decide (a = b) = false from decide_eq_false fun k => hl (by rw [k])]
    refine wO ?_
    exact fin ⟨res_of rfl rfl rfl, trivial⟩
end Go.Proofs.Ytcmdhpinelnclaa

namespace Go.Proofs.Ytcmdhpinelnclaa
open Go Go.RowKit
set_option linter.unusedVariables false
set_option linter.unusedSimpArgs false
set_option maxRecDepth 100000

theorem a_lplace (v n : Int) (h0 : 0 < n) (h1 : n ≤ 9223372036854775807) (hv : -9223372036854775808 ≤ v ∧ v ≤ 9223372036854775807) : AFn Try.prog 19 [intA v, intA n] (intA (v % n)) := fun U w vs h => by
  obtain ⟨v1, us, rfl, k1, h⟩ := rdp_one h
  obtain ⟨v2, us, rfl, k2, h⟩ := rdp_one h
  obtain rfl := rdp_nil h
  rw [int_arg k1, int_arg k2]
  exact (lplace_any v n w h0 h1 hv).mono fun e w' ⟨q1, q2⟩ => ⟨_, q1, is_v (w := w) rfl, by rw [q2]; exact Ext.refl w⟩
end Go.Proofs.Ytcmdhpinelnclaa
