/-
  The plain law of the checksums: a register of 32 bits, a step, a byte, a text; linear, injective; the table of a byte's steps. No program in sight.
-/
namespace Go.Proofs.Ytdbiioihdkaejaa

/-- one step of the register -/
def stepL (r : BitVec 32) : BitVec 32 := if r.getLsbD 0 then (r >>> 1) ^^^ 0xedb88320#32 else r >>> 1

theorem stepL_xor (a b : BitVec 32) : stepL (a ^^^ b) = stepL a ^^^ stepL b := by
  unfold stepL
  rw [BitVec.getLsbD_xor, BitVec.ushiftRight_xor_distrib]
  cases a.getLsbD 0 <;> cases b.getLsbD 0 <;> simp
  · rw [BitVec.xor_assoc]
  · rw [BitVec.xor_assoc, BitVec.xor_comm (b >>> 1), BitVec.xor_assoc]
  · rw [BitVec.xor_assoc (a >>> 1), BitVec.xor_comm (b >>> 1), ← BitVec.xor_assoc 0xedb88320#32, BitVec.xor_self, BitVec.zero_xor]

theorem stepL_zero : stepL 0#32 = 0#32 := by decide

theorem toNat_shr1 (c : BitVec 32) : (c >>> 1).toNat = c.toNat / 2 := by
  rw [BitVec.toNat_ushiftRight, Nat.shiftRight_eq_div_pow]

theorem lsb_toNat (c : BitVec 32) : c.getLsbD 0 = decide (c.toNat % 2 = 1) := by
  rw [BitVec.getLsbD, Bool.eq_iff_iff]
  simp [Nat.testBit]

theorem stepL_eq_zero {c : BitVec 32} (h : stepL c = 0#32) : c = 0#32 := by
  unfold stepL at h
  have h1 := toNat_shr1 c
  have h2 := c.isLt
  rw [lsb_toNat] at h
  by_cases hc : c.toNat % 2 = 1
  · simp only [hc, decide_true, if_true] at h
    have h3 : c >>> 1 = 0xedb88320#32 := by
      have := congrArg (· ^^^ 0xedb88320#32) h
      simpa [BitVec.xor_assoc] using this
    rw [h3] at h1
    simp at h1
    omega
  · simp only [hc, decide_false, if_false, Bool.false_eq_true] at h
    rw [h] at h1
    apply BitVec.eq_of_toNat_eq
    simp at h1 ⊢
    omega

/-- n steps -/
def stepN : Nat → BitVec 32 → BitVec 32
  | 0, r => r
  | n + 1, r => stepN n (stepL r)

theorem stepN_succ' (n : Nat) (r : BitVec 32) : stepN (n + 1) r = stepL (stepN n r) := by
  induction n generalizing r with
  | zero => rfl
  | succ n ih => rw [stepN, ih]; rfl

theorem stepN_add (m n : Nat) (r : BitVec 32) : stepN (m + n) r = stepN n (stepN m r) := by
  induction m generalizing r with
  | zero => simp [stepN]
  | succ m ih => rw [Nat.succ_add]; simp only [stepN]; rw [ih]

theorem stepN_xor (n : Nat) (a b : BitVec 32) : stepN n (a ^^^ b) = stepN n a ^^^ stepN n b := by
  induction n generalizing a b with
  | zero => rfl
  | succ n ih => simp only [stepN]; rw [stepL_xor, ih]

theorem stepN_zero (n : Nat) : stepN n 0#32 = 0#32 := by
  induction n with
  | zero => rfl
  | succ n ih => simp only [stepN]; rw [stepL_zero, ih]

theorem stepN_eq_zero {n : Nat} {c : BitVec 32} (h : stepN n c = 0#32) : c = 0#32 := by
  induction n generalizing c with
  | zero => exact h
  | succ n ih => exact stepL_eq_zero (ih h)

/-- where the n lowest bits are 0 n steps shift -/
theorem stepN_shift (n : Nat) (c : BitVec 32) (h : c.toNat % 2 ^ n = 0) : (stepN n c).toNat = c.toNat / 2 ^ n := by
  induction n generalizing c with
  | zero => simp [stepN]
  | succ n ih =>
    have hp : 0 < 2 ^ n := Nat.two_pow_pos n
    have h2 : c.toNat % 2 = 0 := by
      have := Nat.mod_mod_of_dvd c.toNat (show 2 ∣ 2 ^ (n + 1) from ⟨2 ^ n, by rw [Nat.pow_succ, Nat.mul_comm]⟩)
      rw [h] at this; omega
    have h3 : (stepL c).toNat = c.toNat / 2 := by
      unfold stepL
      rw [lsb_toNat, if_neg (by simp; omega), toNat_shr1]
    have h4 : (stepL c).toNat % 2 ^ n = 0 := by
      rw [h3]
      have hd : 2 ^ (n + 1) ∣ c.toNat := Nat.dvd_of_mod_eq_zero h
      obtain ⟨q, hq⟩ := hd
      rw [hq, Nat.pow_succ, Nat.mul_comm (2 ^ n) 2, Nat.mul_assoc, Nat.mul_div_cancel_left _ (by omega), Nat.mul_mod_right]
    simp only [stepN]
    rw [ih _ h4, h3, Nat.div_div_eq_div_mul, Nat.pow_succ, Nat.mul_comm]

/-- a byte -/
def stepB (r : BitVec 32) (b : BitVec 8) : BitVec 32 := stepN 8 (r ^^^ b.setWidth 32)

/-- a text -/
def runB (r : BitVec 32) : List (BitVec 8) → BitVec 32
  | [] => r
  | b :: l => runB (stepB r b) l

theorem runB_append (r : BitVec 32) (a b : List (BitVec 8)) : runB r (a ++ b) = runB (runB r a) b := by
  induction a generalizing r with
  | nil => rfl
  | cons x a ih => simp only [List.cons_append, runB]; rw [ih]

theorem runB_snoc (r : BitVec 32) (a : List (BitVec 8)) (b : BitVec 8) : runB r (a ++ [b]) = stepB (runB r a) b := by rw [runB_append]; rfl

theorem runB_take (r : BitVec 32) (l : List (BitVec 8)) (k : Nat) (h : k < l.length) : runB r (l.take (k + 1)) = stepB (runB r (l.take k)) l[k] := by
  rw [List.take_succ_eq_append_getElem h, runB_snoc]

/-- the checksum of what has the checksum s, with bytes behind it -/
def moreL (s : BitVec 32) (l : List (BitVec 8)) : BitVec 32 := ~~~ runB (~~~ s) l
def sumL (l : List (BitVec 8)) : BitVec 32 := moreL 0#32 l

/-- the register is its low byte and the rest -/
theorem low_high (z : BitVec 32) : z = (z.setWidth 8).setWidth 32 ^^^ ((z >>> 8) <<< 8) := by
  apply BitVec.eq_of_getLsbD_eq
  intro i hi
  simp only [BitVec.getLsbD_xor, BitVec.getLsbD_setWidth, BitVec.getLsbD_shiftLeft, BitVec.getLsbD_ushiftRight]
  by_cases h8 : i < 8
  · simp [h8, hi]
  · have : 8 + (i - 8) = i := by omega
    simp [h8, hi]
    rw [this, BitVec.getLsbD_eq_getElem hi]

theorem table_law (z : BitVec 32) : stepN 8 z = stepN 8 ((z.setWidth 8).setWidth 32) ^^^ (z >>> 8) := by
  conv => lhs; rw [low_high z]
  rw [stepN_xor]
  congr 1
  apply BitVec.eq_of_toNat_eq
  have hz := z.isLt
  have h1 : ((z >>> 8) <<< 8).toNat = z.toNat / 256 * 256 := by
    rw [BitVec.toNat_shiftLeft, BitVec.toNat_ushiftRight, Nat.shiftRight_eq_div_pow, Nat.shiftLeft_eq]
    omega
  rw [stepN_shift 8 _ (by rw [h1]; omega), h1, BitVec.toNat_ushiftRight, Nat.shiftRight_eq_div_pow]
  omega

theorem table_step (x : BitVec 32) (c : BitVec 8) : stepB x c = stepN 8 ((x.setWidth 8 ^^^ c).setWidth 32) ^^^ (x >>> 8) := by
  unfold stepB
  rw [table_law]
  congr 1
  · congr 2
    apply BitVec.eq_of_getLsbD_eq
    intro i hi
    simp [hi, show i < 32 by omega]
  · apply BitVec.eq_of_getLsbD_eq
    intro i hi
    simp only [BitVec.getLsbD_ushiftRight, BitVec.getLsbD_xor, BitVec.getLsbD_setWidth]
    simp

/-! ### linear -/
def xorB (a b : List (BitVec 8)) : List (BitVec 8) := List.zipWith (· ^^^ ·) a b

theorem stepB_xor (r s : BitVec 32) (a b : BitVec 8) : stepB (r ^^^ s) (a ^^^ b) = stepB r a ^^^ stepB s b := by
  unfold stepB
  rw [← stepN_xor]
  congr 1
  have : (a ^^^ b).setWidth 32 = a.setWidth 32 ^^^ b.setWidth 32 := BitVec.setWidth_xor
  rw [this, BitVec.xor_assoc, BitVec.xor_assoc, ← BitVec.xor_assoc s, BitVec.xor_comm s, BitVec.xor_assoc]

theorem runB_xor (r s : BitVec 32) (a b : List (BitVec 8)) (h : a.length = b.length) : runB (r ^^^ s) (xorB a b) = runB r a ^^^ runB s b := by
  induction a generalizing r s b with
  | nil => cases b with
    | nil => rfl
    | cons => simp at h
  | cons x a ih => cases b with
    | nil => simp at h
    | cons y b =>
      simp only [xorB, List.zipWith_cons_cons, runB]
      rw [stepB_xor]
      exact ih _ _ _ (by simpa using h)

theorem stepB_inj {r s : BitVec 32} {b : BitVec 8} (h : stepB r b = stepB s b) : r = s := by
  have h1 := stepB_xor r s b b
  rw [h, BitVec.xor_self, BitVec.xor_self] at h1
  have h2 := stepN_eq_zero (n := 8) (by simpa [stepB] using h1)
  have := congrArg (· ^^^ s) h2
  simpa [BitVec.xor_assoc] using this

theorem runB_inj {r s : BitVec 32} {l : List (BitVec 8)} (h : runB r l = runB s l) : r = s := by
  induction l generalizing r s with
  | nil => exact h
  | cons x l ih => exact stepB_inj (ih h)

theorem sumL_three (a b c : List (BitVec 8)) (h1 : a.length = b.length) (h2 : b.length = c.length) :
    sumL (xorB (xorB a b) c) = sumL a ^^^ sumL b ^^^ sumL c := by
  unfold sumL moreL
  have e : (~~~ 0#32 : BitVec 32) = (~~~ 0#32 ^^^ ~~~ 0#32) ^^^ ~~~ 0#32 := by decide
  have l1 : (xorB a b).length = c.length := by simp [xorB]; omega
  rw [show runB (~~~ 0#32) (xorB (xorB a b) c) = runB ((~~~ 0#32 ^^^ ~~~ 0#32) ^^^ ~~~ 0#32) (xorB (xorB a b) c) from by rw [← e], runB_xor _ _ _ _ l1, runB_xor _ _ _ _ h1]
  apply BitVec.eq_of_getLsbD_eq
  intro i hi
  simp [hi]

theorem sumL_joins (a b : List (BitVec 8)) : moreL (sumL a) b = sumL (a ++ b) := by
  unfold sumL moreL
  rw [runB_append, BitVec.not_not]

theorem moreL_append (s : BitVec 32) (a b : List (BitVec 8)) : moreL (moreL s a) b = moreL s (a ++ b) := by
  unfold moreL
  rw [runB_append, BitVec.not_not]

theorem moreL_nil (s : BitVec 32) : moreL s [] = s := by unfold moreL runB; rw [BitVec.not_not]

/-! ### a burst of four bytes -/
theorem burst_four (r : BitVec 32) (b0 b1 b2 b3 : BitVec 8) (x : BitVec 32) :
    (runB r [b0, b1, b2, b3] = runB r [b0 ^^^ x.setWidth 8, b1 ^^^ (x >>> 8).setWidth 8, b2 ^^^ (x >>> 16).setWidth 8, b3 ^^^ (x >>> 24).setWidth 8]) ↔ x = 0#32 := by
  constructor
  · intro h
    have h1 := runB_xor r r [b0, b1, b2, b3] [b0 ^^^ x.setWidth 8, b1 ^^^ (x >>> 8).setWidth 8, b2 ^^^ (x >>> 16).setWidth 8, b3 ^^^ (x >>> 24).setWidth 8] rfl
    rw [← h, BitVec.xor_self, BitVec.xor_self] at h1
    simp only [xorB, List.zipWith_cons_cons, List.zipWith_nil_left, ← BitVec.xor_assoc, BitVec.xor_self, BitVec.zero_xor] at h1
    have key : runB 0#32 [x.setWidth 8, (x >>> 8).setWidth 8, (x >>> 16).setWidth 8, (x >>> 24).setWidth 8] = stepN 32 x := by
      have e1 : stepN 8 x = stepB 0#32 (x.setWidth 8) ^^^ (x >>> 8) := by
        rw [table_law]; unfold stepB; rw [BitVec.zero_xor]
      have e2 : ∀ (y : BitVec 32) (z : BitVec 32), stepN 8 (y ^^^ z) = stepB y (z.setWidth 8) ^^^ (z >>> 8) := by
        intro y z
        rw [stepN_xor, table_law z]
        unfold stepB
        rw [stepN_xor, BitVec.xor_assoc]
      have s1 : (x >>> 8) >>> 8 = x >>> 16 := by rw [← BitVec.shiftRight_add]
      have s2 : (x >>> 16) >>> 8 = x >>> 24 := by rw [← BitVec.shiftRight_add]
      have s3 : (x >>> 24) >>> 8 = 0#32 := by
        rw [← BitVec.shiftRight_add]
        apply BitVec.eq_of_toNat_eq
        rw [BitVec.toNat_ushiftRight, Nat.shiftRight_eq_div_pow]
        have := x.isLt
        simp
        omega
      rw [show stepN 32 x = stepN 8 (stepN 8 (stepN 8 (stepN 8 x))) from rfl, e1, e2, e2, e2, s1, s2, s3, BitVec.xor_zero]
      rfl
    rw [key] at h1
    exact stepN_eq_zero h1
  · rintro rfl
    simp

theorem stepB_turn (r : BitVec 32) (b x : BitVec 8) : stepB r b = stepB r (b ^^^ x) ↔ x = 0#8 := by
  constructor
  · intro h
    have h1 := stepB_xor r r b (b ^^^ x)
    rw [← h, BitVec.xor_self, BitVec.xor_self, ← BitVec.xor_assoc, BitVec.xor_self, BitVec.zero_xor] at h1
    have h2 := stepN_eq_zero (n := 8) (by simpa [stepB] using h1)
    apply BitVec.eq_of_toNat_eq
    have h3 := congrArg BitVec.toNat h2
    simp at h3
    have := x.isLt
    simp
    omega
  · rintro rfl
    simp
theorem sumL_turned (l : List (BitVec 8)) (k : Nat) (hk : k < l.length) (x : BitVec 8) : sumL l = sumL (l.set k (l[k] ^^^ x)) ↔ x = 0#8 := by
  have e1 : l = l.take k ++ l[k] :: l.drop (k + 1) := by rw [List.getElem_cons_drop, List.take_append_drop]
  have e2 : l.set k (l[k] ^^^ x) = l.take k ++ (l[k] ^^^ x) :: l.drop (k + 1) := by rw [List.set_eq_take_append_cons_drop, if_pos hk]
  unfold sumL moreL
  rw [e2]
  conv => lhs; lhs; rw [e1]
  rw [runB_append, runB_append]
  simp only [runB]
  constructor
  · intro h
    have h1 : runB (stepB (runB (~~~ 0#32) (l.take k)) l[k]) (l.drop (k + 1)) = runB (stepB (runB (~~~ 0#32) (l.take k)) (l[k] ^^^ x)) (l.drop (k + 1)) := by
      have := congrArg (fun z => ~~~ z) h
      simpa using this
    exact (stepB_turn _ _ _).1 (runB_inj h1)
  · rintro rfl
    simp

/-- the byte number j of x -/
def byteK (x : BitVec 32) (j : Nat) : BitVec 8 := (x >>> (8 * j)).setWidth 8
/-- j bytes turned from place k on -/
def turnK (l : List (BitVec 8)) (k : Nat) (x : BitVec 32) : Nat → List (BitVec 8)
  | 0 => l
  | j + 1 => (turnK l k x j).set (k + j) ((turnK l k x j).getD (k + j) 0#8 ^^^ byteK x j)
theorem turnK_length (l : List (BitVec 8)) (k : Nat) (x : BitVec 32) (j : Nat) : (turnK l k x j).length = l.length := by
  induction j with
  | zero => rfl
  | succ j ih => simp [turnK, ih]
theorem turnK_four (p q : List (BitVec 8)) (b0 b1 b2 b3 : BitVec 8) (x : BitVec 32) :
    turnK (p ++ [b0, b1, b2, b3] ++ q) p.length x 4 = p ++ [b0 ^^^ byteK x 0, b1 ^^^ byteK x 1, b2 ^^^ byteK x 2, b3 ^^^ byteK x 3] ++ q := by
  simp [turnK, List.getD_eq_getElem?_getD]
theorem four_at (l : List (BitVec 8)) (k : Nat) (h : k + 3 < l.length) : ∃ p b0 b1 b2 b3 q, l = p ++ [b0, b1, b2, b3] ++ q ∧ p.length = k := by
  refine ⟨l.take k, l[k], l[k + 1], l[k + 2], l[k + 3], l.drop (k + 4), ?_, by simp; omega⟩
  have e0 : l.drop k = l[k] :: l.drop (k + 1) := List.drop_eq_getElem_cons (by omega)
  have e1 : l.drop (k + 1) = l[k + 1] :: l.drop (k + 2) := List.drop_eq_getElem_cons (by omega)
  have e2 : l.drop (k + 2) = l[k + 2] :: l.drop (k + 3) := List.drop_eq_getElem_cons (by omega)
  have e3 : l.drop (k + 3) = l[k + 3] :: l.drop (k + 4) := List.drop_eq_getElem_cons (by omega)
  conv => lhs; rw [← List.take_append_drop k l, e0, e1, e2, e3]
  simp
theorem sumL_burst (l : List (BitVec 8)) (k : Nat) (hk : k + 3 < l.length) (x : BitVec 32) : sumL l = sumL (turnK l k x 4) ↔ x = 0#32 := by
  obtain ⟨p, b0, b1, b2, b3, q, rfl, rfl⟩ := four_at l k hk
  rw [turnK_four]
  unfold sumL moreL
  rw [runB_append, runB_append, runB_append, runB_append]
  have hb := burst_four (runB (~~~ 0#32) p) b0 b1 b2 b3 x
  have e0 : byteK x 0 = x.setWidth 8 := by simp [byteK]
  rw [e0]
  constructor
  · intro h
    have h1 := congrArg (fun z => ~~~ z) h
    simp only [BitVec.not_not] at h1
    exact hb.1 (runB_inj h1)
  · intro h
    have h1 := hb.2 h
    congr 1
    rw [show byteK x 1 = (x >>> 8).setWidth 8 from rfl, show byteK x 2 = (x >>> 16).setWidth 8 from rfl, show byteK x 3 = (x >>> 24).setWidth 8 from rfl, ← h1]

end Go.Proofs.Ytdbiioihdkaejaa
