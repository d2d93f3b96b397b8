/-
  KeyPure: keys and values as texts; the order of keys is that of their ranks. Plain Lean, no program.
-/
import Derived.Test.YtigbkhjcboecjaaTypes
import Derived.Lib.Bytealg
namespace Go.Proofs.Ytigbkhjcboecjaa
open Go Go.RowKit
set_option linter.unusedVariables false
set_option linter.unusedSimpArgs false

/-! ### the order of texts -/
def lexCmp : List (BitVec 8) → List (BitVec 8) → Int
  | [], [] => 0
  | [], _ :: _ => -1
  | _ :: _, [] => 1
  | a :: l, b :: m => if a.toNat < b.toNat then -1 else if b.toNat < a.toNat then 1 else lexCmp l m
theorem compareBytes_eq : ∀ (l m : List (BitVec 8)), Lib.compareBytes (bytesOf l).data.toList (bytesOf m).data.toList = lexCmp l m
  | [], [] => by rw [bytesOf_def]; simp [Lib.compareBytes, lexCmp]
  | [], _ :: _ => by rw [bytesOf_def, bytesOf_def]; simp [Lib.compareBytes, lexCmp]
  | _ :: _, [] => by rw [bytesOf_def, bytesOf_def]; simp [Lib.compareBytes, lexCmp]
  | a :: l, b :: m => by
    have ih := compareBytes_eq l m
    have e1 : (bytesOf (a :: l)).data.toList = UInt8.ofBitVec a :: (bytesOf l).data.toList := by rw [bytesOf_def, bytesOf_def]; simp
    have e2 : (bytesOf (b :: m)).data.toList = UInt8.ofBitVec b :: (bytesOf m).data.toList := by rw [bytesOf_def, bytesOf_def]; simp
    rw [e1, e2, Lib.compareBytes, lexCmp, ih]
    have h1 : (UInt8.ofBitVec a < UInt8.ofBitVec b) = (a.toNat < b.toNat) := rfl
    have h2 : (UInt8.ofBitVec b < UInt8.ofBitVec a) = (b.toNat < a.toNat) := rfl
    simp only [h1, h2]
theorem lexCmp_nn : lexCmp [] [] = 0 := by simp [lexCmp]
theorem lexCmp_nc (b : BitVec 8) (l : List (BitVec 8)) : lexCmp [] (b :: l) = -1 := by simp [lexCmp]
theorem lexCmp_cn (b : BitVec 8) (l : List (BitVec 8)) : lexCmp (b :: l) [] = 1 := by simp [lexCmp]
/-- how many texts of so many bytes at most -/
def many8 : Nat → Nat
  | 0 => 1
  | m + 1 => 1 + 256 * many8 m
/-- a text's rank among those of so many bytes at most -/
def rk : Nat → List (BitVec 8) → Nat
  | 0, _ => 0
  | _ + 1, [] => 0
  | m + 1, b :: l => 1 + b.toNat * many8 m + rk m l
theorem rk_lt : ∀ (m : Nat) (l : List (BitVec 8)), rk m l < many8 m
  | 0, _ => by simp [rk, many8]
  | m + 1, [] => by simp [rk, many8]; omega
  | m + 1, b :: l => by
    have h := rk_lt m l
    have hb := b.isLt
    have h2 : b.toNat * many8 m + many8 m ≤ 256 * many8 m := by rw [← Nat.succ_mul]; exact Nat.mul_le_mul_right _ (by omega)
    simp only [rk, many8]; generalize b.toNat * many8 m = q at *; omega
def sgn (a b : Nat) : Int := if a < b then -1 else if b < a then 1 else 0
theorem sgn_lt {a b : Nat} (h : a < b) : sgn a b = -1 := by unfold sgn; rw [if_pos h]
theorem sgn_gt {a b : Nat} (h : b < a) : sgn a b = 1 := by unfold sgn; rw [if_neg (by omega), if_pos h]
theorem sgn_same (a : Nat) : sgn a a = 0 := by unfold sgn; rw [if_neg (by omega), if_neg (by omega)]
theorem lexCmp_rk : ∀ (m : Nat) (k l : List (BitVec 8)), k.length ≤ m → l.length ≤ m → lexCmp k l = sgn (rk m k) (rk m l)
  | _, [], [], _, _ => by simp [lexCmp, sgn]
  | 0, [], _ :: _, _, h => by simp at h
  | 0, _ :: _, _, h, _ => by simp at h
  | m + 1, [], b :: l, _, _ => by rw [lexCmp_nc]; exact (sgn_lt (by simp only [rk]; omega)).symm
  | m + 1, a :: k, [], _, _ => by rw [lexCmp_cn]; exact (sgn_gt (by simp only [rk]; omega)).symm
  | m + 1, a :: k, b :: l, h1, h2 => by
    have ih := lexCmp_rk m k l (by simpa using h1) (by simpa using h2)
    have hk := rk_lt m k
    have hl := rk_lt m l
    simp only [lexCmp, rk]
    rcases Nat.lt_trichotomy a.toNat b.toNat with hab | hab | hab
    · have : a.toNat * many8 m + many8 m ≤ b.toNat * many8 m := by rw [← Nat.succ_mul]; exact Nat.mul_le_mul_right _ (by omega)
      generalize a.toNat * many8 m = p at *
      generalize b.toNat * many8 m = q at *
      rw [if_pos hab]; unfold sgn; rw [if_pos (by omega)]
    · rw [if_neg (by omega), if_neg (by omega), ih, hab]
      generalize b.toNat * many8 m = q
      unfold sgn
      by_cases h3 : rk m k < rk m l
      · rw [if_pos h3, if_pos (by omega)]
      · by_cases h4 : rk m l < rk m k
        · rw [if_neg h3, if_pos h4, if_neg (by omega), if_pos (by omega)]
        · rw [if_neg h3, if_neg h4, if_neg (by omega), if_neg (by omega)]
    · have : b.toNat * many8 m + many8 m ≤ a.toNat * many8 m := by rw [← Nat.succ_mul]; exact Nat.mul_le_mul_right _ (by omega)
      generalize a.toNat * many8 m = p at *
      generalize b.toNat * many8 m = q at *
      rw [if_neg (by omega), if_pos hab]; unfold sgn; rw [if_neg (by omega), if_pos (by omega)]
theorem lexCmp_zero : ∀ (k l : List (BitVec 8)), lexCmp k l = 0 ↔ k = l
  | [], [] => by simp [lexCmp]
  | [], _ :: _ => by simp [lexCmp]
  | _ :: _, [] => by simp [lexCmp]
  | a :: k, b :: l => by
    have ih := lexCmp_zero k l
    rw [lexCmp]
    rcases Nat.lt_trichotomy a.toNat b.toNat with hab | hab | hab
    · rw [if_pos hab]; simp; intro h; rw [h] at hab; omega
    · rw [if_neg (by omega), if_neg (by omega), ih]
      have : a = b := BitVec.eq_of_toNat_eq hab
      simp [this]
    · rw [if_neg (by omega), if_pos hab]; simp; intro h; rw [h] at hab; omega
theorem sgn_zero (a b : Nat) : sgn a b = 0 ↔ a = b := by unfold sgn; split <;> (try split) <;> omega
theorem sgn_neg (a b : Nat) : sgn a b < 0 ↔ a < b := by unfold sgn; split <;> (try split) <;> omega
theorem sgn_pos (a b : Nat) : 0 < sgn a b ↔ b < a := by unfold sgn; split <;> (try split) <;> omega
theorem sgn_le (a b : Nat) : sgn a b ≤ 0 ↔ a ≤ b := by unfold sgn; split <;> (try split) <;> omega
theorem sgn_ge (a b : Nat) : 0 ≤ sgn a b ↔ b ≤ a := by unfold sgn; split <;> (try split) <;> omega

/-! ### bytes in a row of m, zero behind the n-th -/
def trunc {m : Nat} (b : Vector (BitVec 8) m) (n : Nat) : Vector (BitVec 8) m := Vector.ofFn fun i => if i.1 < n then b[i.1] else 0#8
theorem trunc_get {m : Nat} (b : Vector (BitVec 8) m) (n i : Nat) (h : i < m) : (trunc b n)[i] = if i < n then b[i] else 0#8 := by unfold trunc; simp
theorem trunc_iff {m : Nat} (b : Vector (BitVec 8) m) (n : Nat) : trunc b n = b ↔ ∀ i (h : i < m), n ≤ i → b[i] = 0#8 := by
  constructor
  · intro h i hi hn
    have := trunc_get b n i hi
    rw [h, if_neg (by omega)] at this
    exact this
  · intro h
    apply Vector.ext
    intro i hi
    rw [trunc_get]
    split
    · rfl
    · rw [h i hi (by omega)]
def padded (m : Nat) (l : List (BitVec 8)) : Vector (BitVec 8) m := Vector.ofFn fun i => l.getD i.1 0#8
theorem padded_get (m : Nat) (l : List (BitVec 8)) (i : Nat) (h : i < m) : (padded m l)[i] = l.getD i 0#8 := by unfold padded; simp
def cut {m : Nat} (b : Vector (BitVec 8) m) (n : Nat) : List (BitVec 8) := b.toList.take n
theorem cut_length {m : Nat} (b : Vector (BitVec 8) m) (n : Nat) (h : n ≤ m) : (cut b n).length = n := by unfold cut; simp; omega
theorem cut_get {m : Nat} (b : Vector (BitVec 8) m) (n i : Nat) (h : i < m) (h2 : i < n) : (cut b n)[i]? = some b[i] := by
  unfold cut
  rw [List.getElem?_take, if_pos h2]
  simp [h]
theorem padded_cut {m : Nat} (b : Vector (BitVec 8) m) (n : Nat) (h : trunc b n = b) : padded m (cut b n) = b := by
  apply Vector.ext
  intro i hi
  rw [padded_get, List.getD_eq_getElem?_getD]
  by_cases hn : i < n
  · rw [cut_get b n i hi hn]; rfl
  · rw [List.getElem?_eq_none (by unfold cut; simp; omega), (trunc_iff b n).1 h i hi (by omega)]; rfl
theorem cut_padded (m : Nat) (l : List (BitVec 8)) (h : l.length ≤ m) : cut (padded m l) l.length = l := by
  apply List.ext_getElem?
  intro i
  by_cases hi : i < l.length
  · rw [cut_get _ _ i (by omega) hi, padded_get, List.getD_eq_getElem?_getD]; simp [hi]
  · rw [List.getElem?_eq_none (by unfold cut; simp; omega), List.getElem?_eq_none (by omega)]
theorem trunc_padded (m : Nat) (l : List (BitVec 8)) : trunc (padded m l) l.length = padded m l := by
  rw [trunc_iff]
  intro i hi hn
  rw [padded_get, List.getD_eq_getElem?_getD, List.getElem?_eq_none hn]; rfl

theorem over_zero_cut {m : Nat} (b : Vector (BitVec 8) m) (n : Nat) : over (Vector.replicate m 0#8) (b.toList.take n) = trunc b n := by
  apply Vector.ext
  intro i hi
  rw [over_get, trunc_get, List.getElem?_take]
  by_cases hn : i < n
  · rw [if_pos hn, if_pos hn]; simp [hi]
  · rw [if_neg hn, if_neg hn]; simp
theorem over_zero {m : Nat} (xs : List (BitVec 8)) : over (Vector.replicate m 0#8) xs = padded m xs := by
  apply Vector.ext
  intro i hi
  rw [over_get, padded_get, List.getD_eq_getElem?_getD]; simp

/-! ### keys -/
@[irreducible] def Key.ok (k : Key) : Bool := decide (0 ≤ k.n) && decide (k.n ≤ 8) && decide (trunc k.b k.n.toNat = k.b)
theorem Key.ok_iff (k : Key) : k.ok = true ↔ 0 ≤ k.n ∧ k.n ≤ 8 ∧ trunc k.b k.n.toNat = k.b := by unfold Key.ok; simp [and_assoc]
theorem Key.ok_false (k : Key) : k.ok = false ↔ k.n < 0 ∨ 8 < k.n ∨ trunc k.b k.n.toNat ≠ k.b := by
  rw [← Bool.not_eq_true, Key.ok_iff]
  constructor
  · intro h
    by_cases h1 : k.n < 0
    · exact .inl h1
    · by_cases h2 : 8 < k.n
      · exact .inr (.inl h2)
      · exact .inr (.inr fun h3 => h ⟨by omega, by omega, h3⟩)
  · rintro (h | h | h) ⟨h1, h2, h3⟩
    · omega
    · omega
    · exact h h3
@[irreducible] def Key.txt (k : Key) : List (BitVec 8) := if k.ok then cut k.b k.n.toNat else []
theorem Key.txt_ok {k : Key} (h : k.ok = true) : k.txt = cut k.b k.n.toNat := by unfold Key.txt; rw [if_pos h]
theorem Key.txt_no {k : Key} (h : k.ok = false) : k.txt = [] := by unfold Key.txt; rw [if_neg (by rw [h]; simp)]
theorem Key.txt_length (k : Key) : k.txt.length ≤ 8 := by
  cases h : k.ok
  · rw [Key.txt_no h]; simp
  · rw [Key.txt_ok h]; unfold cut; simp; omega
theorem Key.txt_n {k : Key} (h : k.ok = true) : (k.txt.length : Int) = k.n := by
  obtain ⟨h1, h2, h3⟩ := (Key.ok_iff k).1 h
  rw [Key.txt_ok h, cut_length _ _ (by omega)]; omega
/-- the key of a text -/
def mkKey (l : List (BitVec 8)) : Key := ⟨l.length, padded 8 l⟩
theorem mkKey_ok (l : List (BitVec 8)) (h : l.length ≤ 8) : (mkKey l).ok = true := by
  rw [Key.ok_iff]
  exact ⟨by simp [mkKey], by simp [mkKey]; omega, by simpa [mkKey] using trunc_padded 8 l⟩
theorem mkKey_txt (l : List (BitVec 8)) (h : l.length ≤ 8) : (mkKey l).txt = l := by
  rw [Key.txt_ok (mkKey_ok l h)]
  simpa [mkKey] using cut_padded 8 l h
theorem Key.mk_txt {k : Key} (h : k.ok = true) : mkKey k.txt = k := by
  have hn := Key.txt_n h
  obtain ⟨h1, h2, h3⟩ := (Key.ok_iff k).1 h
  unfold mkKey
  rw [hn, Key.txt_ok h, padded_cut k.b _ h3]
theorem Key.txt_inj {a b : Key} (ha : a.ok = true) (hb : b.ok = true) (h : a.txt = b.txt) : a = b := by rw [← Key.mk_txt ha, h, Key.mk_txt hb]
def Key.rank (k : Key) : Nat := rk 8 k.txt
/-- how two keys' texts are ordered -/
def keyCmp (a b : Key) : Int := lexCmp a.txt b.txt
theorem keyCmp_rank (a b : Key) : keyCmp a b = sgn a.rank b.rank := lexCmp_rk 8 _ _ a.txt_length b.txt_length
theorem rank_inj {a b : Key} (ha : a.ok = true) (hb : b.ok = true) : a.rank = b.rank ↔ a = b := by
  constructor
  · intro h
    have h1 : keyCmp a b = 0 := by rw [keyCmp_rank, h]; simp [sgn]
    exact Key.txt_inj ha hb ((lexCmp_zero _ _).1 h1)
  · rintro rfl; rfl

/-- the document's way to compare: at place i, if it ends there -/
def cmpAt (a b : Key) (i : Nat) : Option Int :=
  if a.n ≤ i ∧ b.n ≤ i then some 0 else if a.n ≤ i then some (-1) else if b.n ≤ i then some 1
  else if (a.b.toList.getD i 0).toNat < (b.b.toList.getD i 0).toNat then some (-1) else if (b.b.toList.getD i 0).toNat < (a.b.toList.getD i 0).toNat then some 1 else none
def cmpFrom (a b : Key) : Nat → Nat → Int
  | 0, _ => 0
  | f + 1, i => (cmpAt a b i).getD (cmpFrom a b f (i + 1))
@[irreducible] def refCmp (a b : Key) : Int := cmpFrom a b 8 0
theorem refCmp_def (a b : Key) : refCmp a b = cmpFrom a b (8 - 0) 0 := by unfold refCmp; rfl
theorem cmpFrom_ends {a b : Key} {i : Nat} {c : Int} (hi : i < 8) (h : cmpAt a b i = some c) : cmpFrom a b (8 - i) i = c := by
  rw [show 8 - i = (8 - (i + 1)) + 1 from by omega, cmpFrom, h]; rfl
theorem cmpFrom_on {a b : Key} {i : Nat} (hi : i < 8) (h : cmpAt a b i = none) : cmpFrom a b (8 - i) i = cmpFrom a b (8 - (i + 1)) (i + 1) := by
  rw [show 8 - i = (8 - (i + 1)) + 1 from by omega, cmpFrom, h]; rfl
theorem cmpFrom_lex {a b : Key} (ha : a.ok = true) (hb : b.ok = true) : ∀ (f i : Nat), f + i = 8 → cmpFrom a b f i = lexCmp (a.txt.drop i) (b.txt.drop i) := by
  have la := Key.txt_length a
  have lb := Key.txt_length b
  have na := Key.txt_n ha
  have nb := Key.txt_n hb
  intro f
  induction f with
  | zero =>
    intro i h
    obtain rfl : i = 8 := by omega
    rw [List.drop_eq_nil_of_le la, List.drop_eq_nil_of_le lb, lexCmp_nn]; rfl
  | succ f ih =>
    intro i h
    rw [cmpFrom, cmpAt]
    by_cases h1 : a.n ≤ i
    · rw [List.drop_eq_nil_of_le (by omega : a.txt.length ≤ i)]
      by_cases h2 : b.n ≤ i
      · rw [if_pos ⟨h1, h2⟩, List.drop_eq_nil_of_le (by omega : b.txt.length ≤ i), lexCmp_nn]; rfl
      · rw [if_neg (by omega), if_pos h1, List.drop_eq_getElem_cons (by omega : i < b.txt.length), lexCmp_nc]; rfl
    · rw [List.drop_eq_getElem_cons (by omega : i < a.txt.length)]
      by_cases h2 : b.n ≤ i
      · rw [if_neg (by omega), if_neg h1, if_pos h2, List.drop_eq_nil_of_le (by omega : b.txt.length ≤ i), lexCmp_cn]; rfl
      · rw [if_neg (by omega), if_neg h1, if_neg h2, List.drop_eq_getElem_cons (by omega : i < b.txt.length), lexCmp]
        have ga : a.b.toList.getD i 0 = a.txt[i]'(by omega) := by
          have h5 : a.txt[i]? = some (a.b[i]'(by omega)) := by rw [Key.txt_ok ha]; exact cut_get _ _ _ _ (by omega)
          rw [List.getElem?_eq_getElem (by omega)] at h5
          injection h5 with h5
          rw [h5]; simp [List.getD_eq_getElem?_getD, (by omega : i < 8)]
        have gb : b.b.toList.getD i 0 = b.txt[i]'(by omega) := by
          have h5 : b.txt[i]? = some (b.b[i]'(by omega)) := by rw [Key.txt_ok hb]; exact cut_get _ _ _ _ (by omega)
          rw [List.getElem?_eq_getElem (by omega)] at h5
          injection h5 with h5
          rw [h5]; simp [List.getD_eq_getElem?_getD, (by omega : i < 8)]
        rw [ga, gb, ← ih (i + 1) (by omega)]
        split
        · rfl
        · split <;> rfl
theorem refCmp_key {a b : Key} (ha : a.ok = true) (hb : b.ok = true) : refCmp a b = keyCmp a b := by
  rw [refCmp_def, cmpFrom_lex ha hb 8 0 rfl]; rfl
theorem refCmp_rank {a b : Key} (ha : a.ok = true) (hb : b.ok = true) : refCmp a b = sgn a.rank b.rank := by rw [refCmp_key ha hb, keyCmp_rank]

/-! ### values -/
@[irreducible] def Vl.ok (k : Vl) : Bool := decide (0 ≤ k.n) && decide (k.n ≤ 16) && decide (trunc k.b k.n.toNat = k.b)
theorem Vl.ok_iff (k : Vl) : k.ok = true ↔ 0 ≤ k.n ∧ k.n ≤ 16 ∧ trunc k.b k.n.toNat = k.b := by unfold Vl.ok; simp [and_assoc]
def mkVl (l : List (BitVec 8)) : Vl := ⟨l.length, padded 16 l⟩
theorem mkVl_ok (l : List (BitVec 8)) (h : l.length ≤ 16) : (mkVl l).ok = true := by
  rw [Vl.ok_iff]
  exact ⟨by simp [mkVl], by simp [mkVl]; omega, by simpa [mkVl] using trunc_padded 16 l⟩
theorem Vl.zero_ok : Vl.zero.ok = true := by
  rw [Vl.ok_iff]
  refine ⟨by simp [Vl.zero], by simp [Vl.zero], ?_⟩
  rw [trunc_iff]
  intro i hi _
  simp [Vl.zero]
end Go.Proofs.Ytigbkhjcboecjaa
