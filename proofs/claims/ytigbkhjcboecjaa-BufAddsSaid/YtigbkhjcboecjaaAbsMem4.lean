/-
  AbsMem4: cuts of slices, composites, makes, copies, texts, over plain readings. Of no one program.
-/
import Derived.Test.YtigbkhjcboecjaaAbsMem3
import Derived.Test.YtigbkhjcboecjaaStructsBase
namespace Go.Proofs.Ytigbkhjcboecjaa
open Go Go.RowKit
set_option linter.unusedVariables false
set_option linter.unusedSimpArgs false

section
variable {P : Program} {E : Env} {nt : Nat} {ops : Array Oper} {T : Nat → Option AV} {H : Hp} {d : Option Nat} {ty : TypeId} {pos : String} {af : Array Edge} {gd : Option (Nat × Bool)} (tb : Tab P)

/-! ### cuts -/
/-- a bound of a cut: none, or a number -/
def BndA (T : Nat → Option AV) : Option Operand → Nat → Nat → Prop
  | none, d, n => n = d
  | some x, _, n => ∃ k i, evalO T x = some (.v (.int k i)) ∧ i = (n : Int)
theorem bnd_none {d : Nat} : BndA T none d d := rfl
theorem bnd_nat {x : Operand} {k : IntKind} {n d : Nat} (h : evalO T x = some (.v (.int k (n : Nat)))) : BndA T (some x) d n := ⟨k, n, h, rfl⟩
theorem bnd_int {x : Operand} {k : IntKind} {i : Int} {d : Nat} (n : Nat) (h : evalO T x = some (.v (.int k i))) (hn : i = (n : Int)) : BndA T (some x) d n := ⟨k, i, h, hn⟩
theorem Rdu_drop {U : Uns} {w : World} {n : Nat} {B : Blk} {H : Hp} : ∀ (k : Nat) {xs : List AV} {c : List Value}, Rdu U w n xs B H c → k ≤ xs.length → Rdu U w n (xs.drop k) B H (c.drop (k * n))
  | 0, xs, c, h, _ => by simpa using h
  | k + 1, [], c, h, hk => by simp at hk
  | k + 1, x :: xs, c, h, hk => by
    simp only [Rdu] at h
    obtain ⟨c1, c2, rfl, hn, _, h2⟩ := h
    rw [List.drop_succ_cons]
    have := Rdu_drop k h2 (by simpa using hk)
    rw [Nat.succ_mul, Nat.add_comm, ← hn, List.drop_append]
    have e : c1.length + k * c1.length - c1.length = k * n := by rw [hn]; omega
    have e0 : c1.drop (c1.length + k * c1.length) = [] := List.drop_eq_nil_of_le (by omega)
    rw [e0, List.nil_append, e, hn]
    exact this
theorem Rdu_take {U : Uns} {w : World} {n : Nat} {B : Blk} {H : Hp} : ∀ (k : Nat) {xs : List AV} {c : List Value}, Rdu U w n xs B H c → Rdu U w n (xs.take k) B H (c.take (k * n))
  | 0, xs, c, h => by simp [Rdu]
  | k + 1, [], c, h => by simp only [Rdu] at h; subst h; simp [Rdu]
  | k + 1, x :: xs, c, h => by
    simp only [Rdu] at h
    obtain ⟨c1, c2, rfl, hn, h1, h2⟩ := h
    rw [List.take_succ_cons]
    simp only [Rdu]
    refine ⟨c1, c2.take (k * n), ?_, hn, h1, Rdu_take k h2⟩
    rw [Nat.succ_mul, Nat.add_comm, ← hn, List.take_append, List.take_of_length_le (by omega)]
    congr 2
    omega
theorem bound_run {w : World} {k : IntKind} {i : Int} {n y : Nat} {c : BoundsCode} (hi : i = (n : Int)) (h : n ≤ y) : (Instr.sliceBound (.int k i) y c).run P w = .ok n w := by
  subst hi
  have h0 : (0 : Int) ≤ (n : Int) ∧ (n : Int) ≤ (y : Int) := by omega
  simp [Instr.sliceBound, asIntOf, h0]
theorem bounds_run {B : Blk} {T' : Nat → Option AV} {H' : Hp} {a : Act} {w : World} (r : Rel E nt B T' H' a w) {isS : Bool} {len cap l h m : Nat} {lo hi mx : Option Operand} (hlo : BndA T' lo 0 l) (hhi : BndA T' hi len h) (hmx : BndA T' mx cap m) (hm0 : mx.isSome = true → hi.isSome = true) (h1 : l ≤ h) (h2 : h ≤ m) (h3 : m ≤ cap) :
    (Instr.sliceBounds isS len cap (lo.map a.eval) (hi.map a.eval) (mx.map a.eval)).run P w = .ok (l, h, m) w := by
  have ev : ∀ {x : Operand} {k : IntKind} {i : Int}, evalO T' x = some (.v (.int k i)) → a.eval x = .int k i := fun h => r.evalv h
  cases mx with
  | none =>
    obtain rfl : m = cap := hmx
    cases hi with
    | none =>
      obtain rfl : h = len := hhi
      cases lo with
      | none => obtain rfl : l = 0 := hlo; simp [Instr.sliceBounds]
      | some x =>
        obtain ⟨k, i, e1, e2⟩ := hlo
        simp [Instr.sliceBounds, ev e1, bound_run e2 h1]
    | some y =>
      obtain ⟨k, i, e1, e2⟩ := hhi
      cases lo with
      | none => obtain rfl : l = 0 := hlo; simp [Instr.sliceBounds, ev e1, bound_run e2 h2]
      | some x =>
        obtain ⟨k', i', e3, e4⟩ := hlo
        simp [Instr.sliceBounds, ev e1, ev e3, bound_run e2 h2, bound_run e4 h1]
  | some z =>
    cases hi with
    | none => simp at hm0
    | some y =>
      obtain ⟨k, i, e1, e2⟩ := hhi
      obtain ⟨k'', i'', e5, e6⟩ := hmx
      cases lo with
      | none => obtain rfl : l = 0 := hlo; simp [Instr.sliceBounds, ev e1, ev e5, bound_run e2 h2, bound_run e6 h3]
      | some x =>
        obtain ⟨k', i', e3, e4⟩ := hlo
        simp [Instr.sliceBounds, ev e1, ev e3, ev e5, bound_run e2 h2, bound_run e4 h1, bound_run e6 h3]
theorem bnd_agree {T' : Nat → Option AV} {o : Option Operand} {d n : Nat} (h : BndA T o d n) (ht : ∀ y ∈ o.toList, evalO T' y = evalO T y) : BndA T' o d n := by
  cases o with
  | none => exact h
  | some x =>
    obtain ⟨k, i, h1, h2⟩ := h
    exact ⟨k, i, (ht x (by simp)).trans h1, h2⟩
/-- a cut of a slice, within its length -/
theorem ok_cut {t e : TypeId} {es bytes : Nat} {ea : Bool} {x : Operand} {lo hi mx : Option Operand} {tok : Option Nat} {xs : List AV} {l h m : Nat} (hd : dOk nt d = true) (hs : tb.ti t = some (.sl e es bytes ea)) (hx : evalO T x = some (.sl tok es xs)) (hlo : BndA T lo 0 l) (hhi : BndA T hi xs.length h)
    (hmx : (mx = none ∧ m = 0) ∨ BndA T mx 0 m ∧ h ≤ m ∧ m ≤ xs.length ∧ mx.isSome = true ∧ hi.isSome = true) (h1 : l ≤ h) (h2 : h ≤ xs.length) :
    OpOK P E nt ops ⟨d, .slice t x lo hi mx, ty, pos, af, gd⟩ T H [] ⟨.sl none es ((xs.take h).drop l), []⟩ :=
  ok_val hd fun B T' H' a w r ht hh => by
    have hr := Rdv_one (by simp) (r.eval ((ht x (by simp [Op.operands])).trans hx)) rfl
    simp only [Rd] at hr
    obtain ⟨A, cap, k1, k2, k3, k4, _⟩ := hr
    injection k1 with k1
    obtain ⟨_, hu, he, _⟩ := tb.ok t _ hs
    have hz := run_sizeOf_of he w
    have hlo' := bnd_agree hlo (T' := T') (fun y hy => ht y (by simp only [Op.operands]; simp; simp at hy; exact .inr (.inl hy)))
    have hhi' := bnd_agree hhi (T' := T') (fun y hy => ht y (by simp only [Op.operands]; simp; simp at hy; exact .inr (.inr (.inl hy))))
    obtain ⟨M, hM, hM2⟩ : ∃ M, (Instr.sliceBounds true xs.length cap (lo.map a.eval) (hi.map a.eval) (mx.map a.eval)).run P w = .ok (l, h, M) w ∧ h ≤ M ∧ M ≤ cap := by
      rcases hmx with ⟨rfl, _⟩ | ⟨b1, b2, b3, b4, b5⟩
      · exact ⟨cap, bounds_run r hlo' hhi' (show BndA T' none cap cap from rfl) (by simp) h1 (by omega) (Nat.le_refl _), by omega, Nat.le_refl _⟩
      · have hmx' := bnd_agree b1 (T' := T') (fun y hy => ht y (by simp only [Op.operands]; simp; simp at hy; exact .inr (.inr (.inr hy))))
        refine ⟨m, bounds_run r hlo' hhi' ?_ (fun _ => b5) h1 b2 (by omega), b2, by omega⟩
        cases mx with
        | none => simp at b4
        | some z => exact hmx'
    refine ⟨.slice (if M = l then A else A.map (·.add (l * es))) (h - l) (M - l), ?_, ?_⟩
    · simp [execOp, k1, Instr.sliceAt, run_underlying hu, Instr.slice, hM, hz]
    · rw [Rdv_not (by simp)]
      refine ⟨[_], ?_, rfl⟩
      simp only [Rd]
      have hlen : ((xs.take h).drop l).length = h - l := by rw [List.length_drop, List.length_take]; omega
      refine ⟨_, M - l, by rw [hlen], by rw [hlen]; omega, by omega, fun h0 => ?_, fun t ht => by cases ht⟩
      rw [hlen] at h0
      obtain ⟨b, off, c, rfl, q1, q2, q3⟩ := k4 (by omega)
      have hcl := Rdu_len q3
      have e1 : l * es + (h - l) * es = h * es := by rw [← Nat.add_mul]; congr 1; omega
      have e2 : h * es ≤ xs.length * es := Nat.mul_le_mul_right _ h2
      refine ⟨b, off + l * es, (c.take (h * es)).drop (l * es), ?_, ?_, fun o o1 o2 => q2 o (by omega) (by rw [hlen] at o2; omega), Rdu_drop l (Rdu_take h q3) (by rw [List.length_take]; omega)⟩
      · rw [if_neg (by omega)]
        simp [add_lit]
      · rw [hlen, row_sub q1 (l * es) ((h - l) * es) (by omega)]
        unfold rowOf
        rw [if_pos (by simp [hcl]; omega)]
        congr 1
        apply Array.ext'
        simp only [Array.toList_extract, List.extract_eq_take_drop]
        rw [List.drop_take]
        congr 1
        omega
theorem ok_cut_nil {t e : TypeId} {es bytes : Nat} {ea : Bool} {x : Operand} {lo hi : Option Operand} (hd : dOk nt d = true) (hs : tb.ti t = some (.sl e es bytes ea)) (hx : evalO T x = some (.v (.slice none 0 0))) (hlo : BndA T lo 0 0) (hhi : BndA T hi 0 0) :
    OpOK P E nt ops ⟨d, .slice t x lo hi none, ty, pos, af, gd⟩ T H [] ⟨.v (.slice none 0 0), []⟩ :=
  ok_val hd fun B T' H' a w r ht hh => by
    have hr := r.evalv ((ht x (by simp [Op.operands])).trans hx)
    obtain ⟨_, hu, he, _⟩ := tb.ok t _ hs
    have hz := run_sizeOf_of he w
    have hlo' := bnd_agree hlo (T' := T') (fun y hy => ht y (by simp only [Op.operands]; simp; simp at hy; exact .inr (.inl hy)))
    have hhi' := bnd_agree hhi (T' := T') (fun y hy => ht y (by simp only [Op.operands]; simp; simp at hy; exact .inr (.inr hy)))
    have hM := bounds_run (P := P) (isS := true) (len := 0) (cap := 0) r hlo' hhi' (show BndA T' none 0 0 from rfl) (by simp) (Nat.le_refl _) (Nat.le_refl _) (Nat.le_refl _)
    refine ⟨.slice none 0 0, ?_, by rw [Rdv_v]; exact ⟨rfl, rfl⟩⟩
    simp at hM
    simp [execOp, hr, Instr.sliceAt, run_underlying hu, Instr.slice, hM, hz]
theorem ok_cut_str {t : TypeId} {x : Operand} {lo hi : Option Operand} {s : ByteArray} {l h : Nat} (hu : P.underlying t = some .string) (hd : dOk nt d = true) (hx : evalO T x = some (.v (.string s))) (hlo : BndA T lo 0 l) (hhi : BndA T hi s.size h) (h1 : l ≤ h) (h2 : h ≤ s.size) :
    OpOK P E nt ops ⟨d, .slice t x lo hi none, ty, pos, af, gd⟩ T H [] ⟨.v (.string (s.extract l h)), []⟩ :=
  ok_val hd fun B T' H' a w r ht hh => by
    have hr := r.evalv ((ht x (by simp [Op.operands])).trans hx)
    have hlo' := bnd_agree hlo (T' := T') (fun y hy => ht y (by simp only [Op.operands]; simp; simp at hy; exact .inr (.inl hy)))
    have hhi' := bnd_agree hhi (T' := T') (fun y hy => ht y (by simp only [Op.operands]; simp; simp at hy; exact .inr (.inr hy)))
    have hM := bounds_run (P := P) (isS := false) (len := s.size) (cap := s.size) r hlo' hhi' (show BndA T' none s.size s.size from rfl) (by simp) h1 h2 (Nat.le_refl _)
    refine ⟨.string (s.extract l h), ?_, by rw [Rdv_v]; exact ⟨rfl, rfl⟩⟩
    simp at hM
    simp [execOp, hr, Instr.sliceAt, run_underlying hu, Instr.slice, hM]
/-- an array in a variable, as a slice from its head on -/
theorem ok_cut_arr {t e : TypeId} {tn len es : Nat} {ea : Bool} {x : Operand} {hi : Option Operand} {g off : Nat} {p : List Nat} {h : Nat} (hd : dOk nt d = true) (hs : tb.ti t = some (.arr tn (len + 1) es ea e)) (hx : evalO T x = some (.ptr g off p)) (hhi : BndA T hi (len + 1) h) (h2 : h ≤ len + 1) (hl : len < 9223372036854775807) :
    OpOK P E nt ops ⟨d, .slice t x none hi none, ty, pos, af, gd⟩ T H [] ⟨.seg g off es p h (len + 1), []⟩ :=
  ok_val hd fun B T' H' a w r ht hh => by
    have hr := Rdv_one (by simp) (r.eval ((ht x (by simp [Op.operands])).trans hx)) rfl
    simp only [Rd] at hr
    obtain ⟨hv, b, k1, k2⟩ := hr
    injection k2 with k2
    obtain ⟨_, hu, he⟩ := tb.ok t _ hs
    have hz := run_sizeOf_of he w
    have hhi' := bnd_agree hhi (T' := T') (fun y hy => ht y (by simp only [Op.operands]; simp; simp at hy; exact .inr hy))
    have hM := bounds_run (P := P) (isS := false) (len := len + 1) (cap := len + 1) r (show BndA T' none 0 0 from rfl) hhi' (show BndA T' none (len + 1) (len + 1) from rfl) (by simp) (Nat.zero_le _) h2 (Nat.le_refl _)
    refine ⟨.slice (some ⟨b, off, none⟩) h (len + 1), ?_, ?_⟩
    · simp at hM
      simp [execOp, k2, Instr.sliceAt, run_underlying hu, Instr.sureAddr, hM, hz, Addr.add]
    · rw [Rdv_not (by simp)]
      exact ⟨[_], by simp only [Rd]; exact ⟨hv, b, k1, by unfold maxLen; omega, h2, rfl⟩, rfl⟩
/-- .. of one that stays: its elements -/
theorem ok_cut_arrf {t e : TypeId} {tn len es m : Nat} {ea : Bool} {x : Operand} {hi : Option Operand} {g off : Nat} {p : List Nat} {h : Nat} {y : AV} {xs : List AV} (hd : dOk nt d = true) (hs : tb.ti t = some (.arr tn (len + 1) es ea e)) (hx : evalO T x = some (.ptr g off p)) (hg : H g = some (.froz y)) (hp : subA p y = some (.arr m es xs)) (ho : offA p y = off)
    (hhi : BndA T hi (len + 1) h) (h2 : h ≤ len + 1) (hxl : xs.length = len + 1) (hl : len < 9223372036854775807) :
    OpOK P E nt ops ⟨d, .slice t x none hi none, ty, pos, af, gd⟩ T H [g] ⟨.sl none es (xs.take h), []⟩ :=
  ok_val hd fun B T' H' a w r ht hh => by
    have hr := Rdv_one (by simp) (r.eval ((ht x (by simp [Op.operands])).trans hx)) rfl
    simp only [Rd] at hr
    obtain ⟨hv, b, k1, k2⟩ := hr
    injection k2 with k2
    obtain ⟨_, hu, he⟩ := tb.ok t _ hs
    have hz := run_sizeOf_of he w
    obtain ⟨b', cs, q1, q2, q3, q4⟩ := r.box g _ ((hh g (by simp)).trans hg)
    rw [k1] at q1; injection q1 with q1; subst q1
    obtain ⟨c1, c2, c3, rfl, m1, m2, _⟩ := Rd_sub p q4 hp
    have hrow := row_mid q2
    rw [Nat.zero_add, m1, ho] at hrow
    simp only [Rd] at m2
    have hl2 := Rdu_len m2.2
    have hhi' := bnd_agree hhi (T' := T') (fun y hy => ht y (by simp only [Op.operands]; simp; simp at hy; exact .inr hy))
    have hM := bounds_run (P := P) (isS := false) (len := len + 1) (cap := len + 1) r (show BndA T' none 0 0 from rfl) hhi' (show BndA T' none (len + 1) (len + 1) from rfl) (by simp) (Nat.zero_le _) h2 (Nat.le_refl _)
    refine ⟨.slice (some ⟨b, off, none⟩) h (len + 1), ?_, ?_⟩
    · simp at hM
      simp [execOp, k2, Instr.sliceAt, run_underlying hu, Instr.sureAddr, hM, hz, Addr.add]
    · rw [Rdv_not (by simp)]
      refine ⟨[_], ?_, rfl⟩
      simp only [Rd]
      have hlen : (xs.take h).length = h := by rw [List.length_take]; omega
      have e2 : h * es ≤ xs.length * es := Nat.mul_le_mul_right _ (by omega)
      refine ⟨_, len + 1, by rw [hlen], by rw [hlen]; exact h2, by unfold maxLen; omega, fun _ => ⟨b, off, c2.take (h * es), rfl, ?_, fun o o1 o2 => ?_, Rdu_take h m2.2⟩, fun t ht => by cases ht⟩
      · rw [hlen]
        have := row_sub hrow 0 (h * es) (by omega)
        rw [Nat.add_zero] at this
        rw [this]
        unfold rowOf
        rw [if_pos (by simp; omega)]
        congr 1
        apply Array.ext'
        simp
      · rw [hlen] at o2
        exact q3 o (by omega) (by simp; omega)

/-! ### composites -/
def partsA (T : Nat → Option AV) : List (Nat × Operand) → Option (List (Nat × AV))
  | [] => some []
  | (i, x) :: l => match evalO T x, partsA T l with
    | some v, some vs => bif notTup v then some ((i, v) :: vs) else none
    | _, _ => none
def fillA : List (Nat × AV) → List AV → Option (List AV)
  | [], zs => some zs
  | (i, v) :: l, zs => match zs[i]? with
    | some z => bif Nat.beq (sizeA v) (sizeA z) then fillA l (zs.set i v) else none
    | none => none
theorem parts_agree {T' : Nat → Option AV} : ∀ {l : List (Nat × Operand)} {vs : List (Nat × AV)}, partsA T l = some vs → (∀ p ∈ l, evalO T' p.2 = evalO T p.2) → partsA T' l = some vs
  | [], vs, h, _ => h
  | (i, x) :: l, vs, h, ht => by
    simp only [partsA] at h ⊢
    rw [ht (i, x) (by simp)]
    cases hx : evalO T x with
    | none => rw [hx] at h; cases h
    | some v =>
      rw [hx] at h
      cases hl : partsA T l with
      | none => rw [hl] at h; cases h
      | some us => rw [hl] at h; rw [parts_agree hl (fun p hp => ht p (List.mem_cons_of_mem _ hp))]; exact h
theorem fill_rds {B : Blk} {T' : Nat → Option AV} {H' : Hp} {a : Act} {w : World} (r : Rel E nt B T' H' a w) {place : Nat → Option (Nat × Nat)} : ∀ (l : List (Nat × Operand)) (vs : List (Nat × AV)) (zs out : List AV) (cells : List Value), partsA T' l = some vs → fillA vs zs = some out →
    (∀ i z, zs[i]? = some z → place i = some (sumS (zs.take i), sizeA z)) → Rds (unst E B H') w zs B H' cells →
    ∃ cells', fillS place cells.toArray (l.map fun p => (p.1, a.eval p.2)) = some cells'.toArray ∧ Rds (unst E B H') w out B H' cells'
  | [], vs, zs, out, cells, h1, h2, _, h4 => by
    simp only [partsA, Option.some.injEq] at h1
    subst h1
    simp only [fillA, Option.some.injEq] at h2
    subst h2
    exact ⟨cells, rfl, h4⟩
  | (i, x) :: l, vs, zs, out, cells, h1, h2, h3, h4 => by
    simp only [partsA] at h1
    cases hx : evalO T' x with
    | none => rw [hx] at h1; cases h1
    | some v =>
      rw [hx] at h1
      cases hl : partsA T' l with
      | none => rw [hl] at h1; cases h1
      | some us =>
        rw [hl] at h1
        cases hnt : notTup v with
        | false => simp [hnt] at h1
        | true =>
          simp only [hnt, cond_true, Option.some.injEq] at h1
          subst h1
          simp only [fillA] at h2
          cases hz : zs[i]? with
          | none => rw [hz] at h2; cases h2
          | some z =>
            rw [hz] at h2
            cases hb : Nat.beq (sizeA v) (sizeA z) with
            | false => simp [hb] at h2
            | true =>
              simp only [hb, cond_true] at h2
              have hsz := Nat.eq_of_beq_eq_true hb
              have hv := r.eval hx
              rw [Rdv_not (notTup_ne hnt)] at hv
              obtain ⟨c', k1, k2⟩ := hv
              obtain ⟨c1, c2, c3, rfl, m1, m2, m3⟩ := Rds_at h4 hz
              have hl' : c'.length = c2.length := by rw [Rd_len k1, Rd_len m2, hsz]
              have hset := m3 v c' k1
              have hplace : ∀ j y, (zs.set i v)[j]? = some y → place j = some (sumS ((zs.set i v).take j), sizeA y) := by
                intro j y hj
                have hsum : ∀ j, sumS ((zs.set i v).take j) = sumS (zs.take j) := by
                  intro j
                  clear h2 h3 h4 hset m3 m1 k1 m2 hl' hj
                  induction zs generalizing i j with
                  | nil => simp
                  | cons q zs ih =>
                    cases i with
                    | zero =>
                      simp at hz; subst hz
                      cases j <;> simp [sumS, hsz]
                    | succ i =>
                      cases j with
                      | zero => simp
                      | succ j => simp [sumS, ih i (by simpa using hz) j]
                rw [hsum]
                by_cases hij : i = j
                · subst hij
                  have hlt : i < zs.length := (List.getElem?_eq_some_iff.1 hz).1
                  rw [List.getElem?_set_self hlt] at hj
                  injection hj with hj
                  subst hj
                  rw [hsz]; exact h3 i z hz
                · rw [List.getElem?_set_ne hij] at hj
                  exact h3 j y hj
              obtain ⟨cells', q1, q2⟩ := fill_rds r l us (zs.set i v) out _ hl h2 hplace hset
              refine ⟨cells', ?_, q2⟩
              simp only [List.map_cons, fillS]
              rw [h3 i z hz]
              have hc : (a.eval x).cells = c'.toArray := by rw [k2]; exact pack_cells k1
              simp only [hc]
              rw [if_pos ⟨by simp [hl', Rd_len m2], by rw [← m1, ← Rd_len m2]; simp <;> omega⟩, ← m1, splice_mid hl']
              exact q1
theorem mapM_places {P : Program} : ∀ (F : List Field) (fs : List (Nat × Nat × Bool)), FOk P (F.map fun f => (f.offset, f.type)) fs → F.mapM (fun f => (P.info? f.type).map fun i => (f.offset, i.size)) = some (fs.map fun x => (x.1, x.2.1))
  | [], [], _ => rfl
  | f :: F, (o, s, g) :: fs, h => by
    obtain ⟨h1, ⟨_, _, _, h2⟩, h3⟩ := h
    have ih := mapM_places F fs h3
    have h2' : (P.info? f.type).map (fun i => (f.offset, i.size)) = some (f.offset, s) := by
      cases hi : P.info? f.type with
      | none => rw [hi] at h2; cases h2
      | some i => rw [hi] at h2; simp at h2; simp [h2]
    simp only [List.mapM_cons, h2', ih, List.map_cons, ← h1]
    rfl
  | [], _ :: _, h => h.elim
  | _ :: _, [], h => h.elim
/-- places, from the parts' sizes -/
def placesOk : Nat → List AV → List (Nat × Nat × Bool) → Bool
  | _, [], [] => true
  | o, z :: zs, (o', s, _) :: fs => Nat.beq o o' && Nat.beq s (sizeA z) && placesOk (o + s) zs fs
  | _, _, _ => false
theorem placesOk_at : ∀ {o : Nat} {zs : List AV} {fs : List (Nat × Nat × Bool)}, placesOk o zs fs = true → ∀ i z, zs[i]? = some z → (fs.map fun x => (x.1, x.2.1))[i]? = some (o + sumS (zs.take i), sizeA z)
  | o, [], [], _, i, z, h => by simp at h
  | o, y :: zs, (o', s, g) :: fs, hk, i, z, h => by
    simp only [placesOk, Bool.and_eq_true] at hk
    obtain ⟨⟨h1, h2⟩, h3⟩ := hk
    have e1 := Nat.eq_of_beq_eq_true h1
    have e2 := Nat.eq_of_beq_eq_true h2
    cases i with
    | zero => simp at h; subst h; simp [sumS, e1, e2]
    | succ i =>
      have := placesOk_at h3 i z (by simpa using h)
      simp only [List.map_cons, List.getElem?_cons_succ, this, List.take_succ_cons, sumS, Option.some.injEq, Prod.mk.injEq, and_true]
      omega
  | _, [], _ :: _, h, _, _, _ => by simp [placesOk] at h
  | _, _ :: _, [], h, _, _, _ => by simp [placesOk] at h
theorem ok_build {t n : Nat} {fs : List (Nat × Nat × Bool)} {l : List (Nat × Operand)} {vs : List (Nat × AV)} {zs out : List AV} (hd : dOk nt d = true) (hs : tb.ti t = some (.st n fs)) (hz : ZeroOk P t (.agg n zs)) (hv : partsA T l = some vs) (ho : fillA vs zs = some out) (hp : placesOk 0 zs fs = true) :
    OpOK P E nt ops ⟨d, .build t l.toArray, ty, pos, af, gd⟩ T H [] ⟨.agg n out, []⟩ :=
  ok_val hd fun B T' H' a w r ht hh => by
    obtain ⟨⟨_, hu0, _, _⟩, F, hu, hF⟩ := tb.ok t _ hs
    obtain ⟨i, zv, z1, z2, z3⟩ := hz
    have hzr := Rd_free (B := B) (H := H') _ (z3 (unst E B H') w)
    simp only [Rd] at hzr
    have hv' := parts_agree hv (T' := T') (fun p hp => ht p.2 (by simp [Op.operands]; exact ⟨p.1, hp⟩))
    obtain ⟨cells', q1, q2⟩ := fill_rds r l vs zs out _ hv' ho (place := fun i => (fs.map fun x => (x.1, x.2.1))[i]?) (fun i z h => by have := placesOk_at hp i z h; simpa using this) hzr.2
    have hb : P.built t (l.map fun p => (p.1, a.eval p.2)) = some cells'.toArray := by
      unfold Program.built
      simp only [z1, hu, z2, mapM_places _ _ hF]
      have := fill_of_fillS _ _ _ q1
      simp only [List.getElem?_toArray]
      simpa using this
    have hlen : cells'.length = n := by
      have e1 := hzr.1
      have : ∀ {zs : List AV} {c : List Value}, Rds (unst E B H') w zs B H' c → c.length = sumS zs := by
        intro zs
        induction zs with
        | nil => intro c h; simp only [Rds] at h; subst h; rfl
        | cons z zs ih => intro c h; simp only [Rds] at h; obtain ⟨c1, c2, rfl, k1, k2⟩ := h; simp [sumS, Rd_len k1, ih k2]
      rw [this q2, ← e1, this hzr.2]
      clear q1 q2 hv hv' hb hzr hp z3
      induction vs generalizing zs with
      | nil => simp only [fillA, Option.some.injEq] at ho; rw [ho]
      | cons p vs ih =>
        obtain ⟨j, v⟩ := p
        simp only [fillA] at ho
        cases hz : zs[j]? with
        | none => rw [hz] at ho; cases ho
        | some z =>
          rw [hz] at ho
          cases hb : Nat.beq (sizeA v) (sizeA z) with
          | false => simp [hb] at ho
          | true =>
            simp only [hb, cond_true] at ho
            rw [ih ho]
            have hsz := Nat.eq_of_beq_eq_true hb
            clear ih ho
            induction zs generalizing j with
            | nil => simp at hz
            | cons q zs ih2 =>
              cases j with
              | zero => simp at hz; subst hz; simp [sumS, hsz]
              | succ j => simp [sumS, ih2 j (by simpa using hz)]
    refine ⟨.agg cells'.toArray, ?_, ?_⟩
    · have hrb := run_build (P := P) w t (l.map fun p => (p.1, a.eval p.2)).toArray cells'.toArray (by simpa using hb)
      simp only [execOp]
      have hm : (Array.map (fun x => (x.1, a.eval x.2)) l.toArray) = (l.map fun p => (p.1, a.eval p.2)).toArray := by simp
      simp only [hm, Sem.run_bind, hrb]
      rfl
    · rw [Rdv_not (by simp)]
      exact ⟨cells', by simp only [Rd]; exact ⟨hlen, q2⟩, rfl⟩
end
end Go.Proofs.Ytigbkhjcboecjaa
