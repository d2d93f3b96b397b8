/-
  AbsMem2: addresses, loads, stores, new variables, over plain readings. Of no one program.
-/
import Derived.Test.YtigbkhjcboecjaaAbsMem
namespace Go.Proofs.Ytigbkhjcboecjaa
open Go Go.RowKit
set_option linter.unusedVariables false
set_option linter.unusedSimpArgs false

/-! ### types, as a table -/
inductive TI where
  | word
  | st (n : Nat) (fs : List (Nat × Nat × Bool))
  | arr (n len es : Nat) (ea : Bool) (e : TypeId)
  | sl (e : TypeId) (es bytes : Nat) (ea : Bool)
def TI.sa : TI → Bool × Nat
  | .word => (false, 1)
  | .st n _ => (true, n)
  | .arr n _ _ _ _ => (true, n)
  | .sl _ _ _ _ => (false, 1)
def FOk (P : Program) : List (Nat × TypeId) → List (Nat × Nat × Bool) → Prop
  | [], [] => True
  | (o, t) :: a, (o', s, g) :: b => o = o' ∧ TyOf P t g s ∧ FOk P a b
  | [], _ :: _ => False
  | _ :: _, [] => False
theorem FOk.at {P : Program} : ∀ {l : List (Nat × TypeId)} {fs : List (Nat × Nat × Bool)}, FOk P l fs → ∀ (i o s : Nat) (g : Bool), fs[i]? = some (o, s, g) → ∃ t, l[i]? = some (o, t) ∧ TyOf P t g s
  | [], [], _, i, o, s, g, h => by simp at h
  | (o0, t0) :: a, (o1, s1, g1) :: b, hk, i, o, s, g, h => by
    obtain ⟨h1, h2, h3⟩ := hk
    cases i with
    | zero =>
      simp only [List.getElem?_cons_zero, Option.some.injEq, Prod.mk.injEq] at h
      obtain ⟨rfl, rfl, rfl⟩ := h
      exact ⟨t0, by simp [h1], h2⟩
    | succ i => simpa using h3.at i o s g (by simpa using h)
  | [], _ :: _, h, _, _, _, _, _ => h.elim
  | _ :: _, [], h, _, _, _, _, _ => h.elim
def TiOk (P : Program) (t : TypeId) : TI → Prop
  | .word => TyOf P t false 1
  | .st n fs => TyOf P t true n ∧ ∃ F : Array Field, P.underlying t = some (.struct F) ∧ FOk P (F.toList.map fun f => (f.offset, f.type)) fs
  | .arr n len es ea e => TyOf P t true n ∧ P.underlying t = some (.array len e) ∧ TyOf P e ea es
  | .sl e es bytes ea => TyOf P t false 1 ∧ P.underlying t = some (.slice e) ∧ TyOf P e ea es ∧ ∃ i z, P.info? e = some i ∧ i.zero = some z ∧ i.size = es ∧ i.bytes = bytes ∧ z.cells.size = es
structure Tab (P : Program) where
  ti : TypeId → Option TI
  ok : ∀ t i, ti t = some i → TiOk P t i
def Tab.sa {P : Program} (tb : Tab P) (t : TypeId) : Option (Bool × Nat) := (tb.ti t).map TI.sa
theorem Tab.tyOf {P : Program} (tb : Tab P) {t : TypeId} {g : Bool} {n : Nat} (h : tb.sa t = some (g, n)) : TyOf P t g n := by
  unfold Tab.sa at h
  cases hi : tb.ti t with
  | none => rw [hi] at h; cases h
  | some i =>
    rw [hi] at h
    have := tb.ok t i hi
    cases i <;> simp only [Option.map_some, TI.sa, Option.some.injEq, Prod.mk.injEq] at h <;> obtain ⟨rfl, rfl⟩ := h
    · exact this
    · exact this.1
    · exact this.1
    · exact this.1
theorem run_sizeOf_of {P : Program} {t : TypeId} {g : Bool} {n : Nat} (h : TyOf P t g n) (w : World) : (sizeOf t).run P w = .ok n w := by
  obtain ⟨d, _, _, hi⟩ := h
  cases hq : P.info? t with
  | none => rw [hq] at hi; cases hi
  | some i =>
    have : i.size = n := by simpa [hq] using hi
    simp [sizeOf, typeInfo, hq, this]

theorem fields_at {P : Program} {F : Array Field} {fs : List (Nat × Nat × Bool)} (h4 : FOk P (F.toList.map fun f => (f.offset, f.type)) fs) (i o s : Nat) (g : Bool) (h : fs[i]? = some (o, s, g)) : ∃ f, F[i]? = some f ∧ f.offset = o ∧ TyOf P f.type g s := by
  obtain ⟨ft, k1, k2⟩ := h4.at i o s g h
  rw [List.getElem?_map] at k1
  cases hf : F.toList[i]? with
  | none => rw [hf] at k1; cases k1
  | some f =>
    rw [hf] at k1
    simp only [Option.map_some, Option.some.injEq, Prod.mk.injEq] at k1
    obtain ⟨rfl, rfl⟩ := k1
    exact ⟨f, by simpa using hf, rfl, k2⟩
theorem st_ok {P : Program} {t n : Nat} {F : Array Field} {l : List (Nat × TypeId)} {fs : List (Nat × Nat × Bool)} (h1 : TyOf P t true n) (h2 : P.underlying t = some (.struct F)) (h3 : F.toList.map (fun f => (f.offset, f.type)) = l) (h4 : FOk P l fs) : TiOk P t (.st n fs) := ⟨h1, F, h2, by rw [h3]; exact h4⟩
theorem sl_ok {P : Program} {t e es bytes : Nat} {ea : Bool} (h1 : TyOf P t false 1) (h2 : P.underlying t = some (.slice e)) (h3 : TyOf P e ea es) (h4 : (P.info? e).map (fun i => (i.zero.map fun z => z.cells.size, i.size, i.bytes)) = some (some es, es, bytes)) : TiOk P t (.sl e es bytes ea) := by
  refine ⟨h1, h2, h3, ?_⟩
  cases hi : P.info? e with
  | none => rw [hi] at h4; cases h4
  | some i =>
    rw [hi] at h4
    simp only [Option.map_some, Option.some.injEq, Prod.mk.injEq] at h4
    obtain ⟨k1, k2, k3⟩ := h4
    cases hz : i.zero with
    | none => rw [hz] at k1; cases k1
    | some z =>
      rw [hz] at k1
      simp only [Option.map_some, Option.some.injEq] at k1
      exact ⟨i, z, rfl, hz, k2, k3, k1⟩
def AllOk (P : Program) : List (Nat × TI) → Prop
  | [] => True
  | (t, i) :: l => TiOk P t i ∧ AllOk P l
theorem look_all {P : Program} : ∀ {l : List (Nat × TI)}, AllOk P l → ∀ t i, look t l = some i → TiOk P t i
  | [], _, t, i, h => by cases h
  | (j, x) :: l, hl, t, i, h => by
    simp only [look] at h
    cases hb : Nat.beq j t
    · rw [hb] at h; exact look_all hl.2 t i h
    · rw [hb] at h
      simp only [cond_true, Option.some.injEq] at h
      subst h
      rw [← Nat.eq_of_beq_eq_true hb]
      exact hl.1

/-! ### what lies at a path -/
def sumS : List AV → Nat
  | [] => 0
  | x :: l => sizeA x + sumS l
def fldA (fs : List (Nat × Nat × Bool)) (y : AV) (f : Nat) : Option (Nat × AV) :=
  match fs[f]?, y with
  | some (o, s, _), .agg _ ys => match ys[f]? with
    | some z => bif Nat.beq o (sumS (ys.take f)) && Nat.beq (sizeA z) s && Nat.blt 0 s then some (o, z) else none
    | none => none
  | _, _ => none
theorem fldA_some {fs : List (Nat × Nat × Bool)} {y : AV} {f o : Nat} {z : AV} (h : fldA fs y f = some (o, z)) : ∃ n ys g, y = .agg n ys ∧ ys[f]? = some z ∧ fs[f]? = some (o, sizeA z, g) ∧ o = sumS (ys.take f) ∧ 0 < sizeA z := by
  unfold fldA at h
  split at h
  · rename_i o' s g n ys h1
    split at h
    · rename_i z' h2
      cases hb : (Nat.beq o' (sumS (ys.take f)) && Nat.beq (sizeA z') s && Nat.blt 0 s)
      · rw [hb] at h; cases h
      · rw [hb] at h
        simp only [cond_true, Option.some.injEq, Prod.mk.injEq] at h
        obtain ⟨rfl, rfl⟩ := h
        simp only [Bool.and_eq_true] at hb
        obtain ⟨⟨b1, b2⟩, b3⟩ := hb
        have e1 := Nat.eq_of_beq_eq_true b1
        have e2 := Nat.eq_of_beq_eq_true b2
        have e3 : 0 < s := by simpa using b3
        subst e2
        exact ⟨n, ys, g, rfl, h2, h1, e1, e3⟩
    · cases h
  · cases h
theorem Rds_at {U : Uns} {w : World} {B : Blk} {H : Hp} : ∀ {ys : List AV} {c : List Value} {f : Nat} {z : AV}, Rds U w ys B H c → ys[f]? = some z → ∃ c1 c2 c3, c = c1 ++ c2 ++ c3 ∧ c1.length = sumS (ys.take f) ∧ Rd U w z B H c2 ∧
    ∀ z' c2', Rd U w z' B H c2' → Rds U w (ys.set f z') B H (c1 ++ c2' ++ c3)
  | [], _, _, _, _, h => by simp at h
  | y :: ys, c, 0, z, hr, h => by
    simp only [Rds] at hr
    obtain ⟨c1, c2, rfl, h1, h2⟩ := hr
    simp at h
    subst h
    refine ⟨[], c1, c2, rfl, rfl, h1, fun z' c2' h3 => ?_⟩
    simp only [List.set_cons_zero, List.nil_append, Rds]
    exact ⟨c2', c2, rfl, h3, h2⟩
  | y :: ys, c, f + 1, z, hr, h => by
    simp only [Rds] at hr
    obtain ⟨c1, c2, rfl, h1, h2⟩ := hr
    obtain ⟨d1, d2, d3, rfl, k1, k2, k3⟩ := Rds_at h2 (by simpa using h)
    refine ⟨c1 ++ d1, d2, d3, by simp, by simp [sumS, k1, Rd_len h1], k2, fun z' c2' h3 => ?_⟩
    simp only [List.set_cons_succ, Rds]
    exact ⟨c1, d1 ++ c2' ++ d3, by simp, h1, k3 z' c2' h3⟩
theorem Rdu_at {U : Uns} {w : World} {n : Nat} {B : Blk} {H : Hp} : ∀ {ys : List AV} {c : List Value} {f : Nat} {z : AV}, Rdu U w n ys B H c → ys[f]? = some z → ∃ c1 c2 c3, c = c1 ++ c2 ++ c3 ∧ c1.length = f * n ∧ c2.length = n ∧ Rd U w z B H c2 ∧
    ∀ z' c2', Rd U w z' B H c2' → c2'.length = n → Rdu U w n (ys.set f z') B H (c1 ++ c2' ++ c3)
  | [], _, _, _, _, h => by simp at h
  | y :: ys, c, 0, z, hr, h => by
    simp only [Rdu] at hr
    obtain ⟨c1, c2, rfl, hn, h1, h2⟩ := hr
    simp at h
    subst h
    refine ⟨[], c1, c2, rfl, by simp, hn, h1, fun z' c2' h3 h4 => ?_⟩
    simp only [List.set_cons_zero, List.nil_append, Rdu]
    exact ⟨c2', c2, rfl, h4, h3, h2⟩
  | y :: ys, c, f + 1, z, hr, h => by
    simp only [Rdu] at hr
    obtain ⟨c1, c2, rfl, hn, h1, h2⟩ := hr
    obtain ⟨d1, d2, d3, rfl, k1, k2, k3, k4⟩ := Rdu_at h2 (by simpa using h)
    refine ⟨c1 ++ d1, d2, d3, by simp, by rw [List.length_append, k1, hn, Nat.succ_mul]; omega, k2, k3, fun z' c2' h3 h4 => ?_⟩
    simp only [List.set_cons_succ, Rdu]
    exact ⟨c1, d1 ++ c2' ++ d3, by simp, hn, h1, k4 z' c2' h3 h4⟩
def subA : List Nat → AV → Option AV
  | [], x => some x
  | i :: p, .agg _ ys => match ys[i]? with
    | some y => subA p y
    | none => none
  | i :: p, .arr _ _ ys => match ys[i]? with
    | some y => subA p y
    | none => none
  | _ :: _, _ => none
def offA : List Nat → AV → Nat
  | [], _ => 0
  | i :: p, .agg _ ys => sumS (ys.take i) + offA p (ys.getD i (.v undef))
  | i :: p, .arr _ n ys => i * n + offA p (ys.getD i (.v undef))
  | _ :: _, _ => 0
/-- in an array only plain data may be laid -/
def setA (v : AV) : List Nat → AV → Option AV
  | [], _ => some v
  | i :: p, .agg n ys => match ys[i]? with
    | some y => (setA v p y).map fun z => .agg n (ys.set i z)
    | none => none
  | i :: p, .arr m n ys => match ys[i]?, dataA v with
    | some y, true => (setA v p y).map fun z => .arr m n (ys.set i z)
    | _, _ => none
  | _ :: _, _ => none
theorem Rd_sub {U : Uns} {w : World} {B : Blk} {H : Hp} : ∀ (p : List Nat) {x : AV} {c : List Value} {y : AV}, Rd U w x B H c → subA p x = some y → ∃ c1 c2 c3, c = c1 ++ c2 ++ c3 ∧ c1.length = offA p x ∧ Rd U w y B H c2 ∧
    ∀ v x' c', setA v p x = some x' → Rd U w v B H c' → c'.length = c2.length → Rd U w x' B H (c1 ++ c' ++ c3)
  | [], x, c, y, hr, h => by
    simp only [subA, Option.some.injEq] at h
    subst h
    exact ⟨[], c, [], by simp, rfl, hr, fun v x' c' h1 h2 _ => by simp only [setA, Option.some.injEq] at h1; subst h1; simpa using h2⟩
  | i :: p, .agg n ys, c, y, hr, h => by
    simp only [Rd] at hr
    obtain ⟨hn, hr⟩ := hr
    simp only [subA] at h
    cases hy : ys[i]? with
    | none => rw [hy] at h; cases h
    | some z =>
      rw [hy] at h
      obtain ⟨c1, c2, c3, rfl, k1, k2, k3⟩ := Rds_at hr hy
      obtain ⟨d1, d2, d3, rfl, m1, m2, m3⟩ := Rd_sub p k2 h
      refine ⟨c1 ++ d1, d2, d3 ++ c3, by simp, by simp [offA, k1, m1, hy], m2, fun v x' c' h1 h2 h3 => ?_⟩
      simp only [setA, hy, Option.map_eq_some_iff] at h1
      obtain ⟨z', h4, rfl⟩ := h1
      have h5 := k3 z' _ (m3 v z' c' h4 h2 h3)
      simp only [Rd]
      refine ⟨by simp at hn ⊢; omega, ?_⟩
      simpa using h5
  | i :: p, .arr m n ys, c, y, hr, h => by
    simp only [Rd] at hr
    obtain ⟨hm, hr⟩ := hr
    simp only [subA] at h
    cases hy : ys[i]? with
    | none => rw [hy] at h; cases h
    | some z =>
      rw [hy] at h
      obtain ⟨c1, c2, c3, rfl, k1, kn, k2, k3⟩ := Rdu_at hr hy
      obtain ⟨d1, d2, d3, rfl, m1, m2, m3⟩ := Rd_sub p k2 h
      refine ⟨c1 ++ d1, d2, d3 ++ c3, by simp, by simp [offA, k1, m1, hy], Rd_free _ m2, fun v x' c' h1 h2 h3 => ?_⟩
      simp only [setA, hy] at h1
      cases hd : dataA v with
      | false => rw [hd] at h1; cases h1
      | true =>
        rw [hd] at h1
        simp only [Option.map_eq_some_iff] at h1
        obtain ⟨z', h4, rfl⟩ := h1
        have h5 := k3 z' _ (m3 v z' c' h4 (Rd_data v hd h2) h3) (by simp at kn ⊢; omega)
        simp only [Rd]
        refine ⟨by simp at hm ⊢; omega, ?_⟩
        simpa using h5
  | _ :: _, .v _, _, _, _, h => by simp [subA] at h
  | _ :: _, .ptr _ _ _, _, _, _, h => by simp [subA] at h
  | _ :: _, .ref _, _, _, _, h => by simp [subA] at h
  | _ :: _, .sl _ _ _, _, _, _, h => by simp [subA] at h
  | _ :: _, .seg _ _ _ _ _ _, _, _, _, h => by simp [subA] at h
  | _ :: _, .tup _, _, _, _, h => by simp [subA] at h
  | _ :: _, .fn _ _ _, _, _, _, h => by simp [subA] at h
  | _ :: _, .ifc _ _, _, _, _, h => by simp [subA] at h

theorem pack_if {U : Uns} {w : World} {B : Blk} {H : Hp} {x : AV} {c : List Value} (h : Rd U w x B H c) : (if isAggA x then Value.agg c.toArray else c.headD undef) = pack x c := by
  cases hx : isAggA x
  · have he := (Rd_pack h).2 hx
    rw [he]
    simp
    have : pack x [pack x c] = pack x c := by rw [← he]
    exact this.symm ▸ rfl
  · simp [(Rd_pack h).1 hx]
section
variable {P : Program} {E : Env} {nt : Nat} {ops : Array Oper} {T : Nat → Option AV} {H : Hp} {d : Option Nat} {ty : TypeId} {pos : String} {af : Array Edge} {gd : Option (Nat × Bool)} (tb : Tab P)
theorem size1 {x : AV} : isAggA x = false → sizeA x = 1 := by cases x <;> simp [isAggA, sizeA]
theorem add_lit (b off n : Nat) : (⟨b, off, none⟩ : Addr).add n = ⟨b, off + n, none⟩ := by unfold Addr.add; split <;> simp_all
theorem row_mid {w : World} {b : Nat} {c1 c2 c3 : List Value} {off : Nat} (h : row? w b off (c1 ++ c2 ++ c3).length = some (c1 ++ c2 ++ c3).toArray) : row? w b (off + c1.length) c2.length = some c2.toArray := by
  rw [row_sub h c1.length c2.length (by simp <;> omega)]
  unfold rowOf
  rw [if_pos (by simp <;> omega)]
  congr 1
  apply Array.ext'
  simp [List.extract_eq_take_drop, List.drop_append, List.take_append]
theorem ok_load_ref {x : Operand} {t : TypeId} {y : AV} (hd : dOk nt d = true) (hx : evalO T x = some (.ref y)) (hs : tb.sa t = some (isAggA y, sizeA y)) : OpOK P E nt ops ⟨d, .load t x, ty, pos, af, gd⟩ T H [] ⟨y, []⟩ :=
  ok_val hd fun B T' H' a w r ht hh => by
    have h := Rdv_one (by simp) (r.eval ((ht x (by simp [Op.operands])).trans hx)) rfl
    simp only [Rd] at h
    obtain ⟨b, off, c, h1, h2, h3, h4⟩ := h
    injection h1 with h1
    have hr := run_loadVar_of (tb.tyOf hs) (by rw [← Rd_len h4]; exact h2) size1
    rw [pack_if h4] at hr
    refine ⟨pack y c, ?_, by rw [Rdv_not (Rd_notup h4)]; exact ⟨c, Rd_free y h4, rfl⟩⟩
    simp [execOp, h1, Instr.loadAt, Instr.sureAddr, hr]
theorem ok_fld_ref {x : Operand} {s : TypeId} {f n o : Nat} {fs : List (Nat × Nat × Bool)} {y z : AV} (hd : dOk nt d = true) (hx : evalO T x = some (.ref y)) (hs : tb.ti s = some (.st n fs)) (hf : fldA fs y f = some (o, z)) :
    OpOK P E nt ops ⟨d, .fieldAddr s x f, ty, pos, af, gd⟩ T H [] ⟨.ref z, []⟩ :=
  ok_val hd fun B T' H' a w r ht hh => by
    have h := Rdv_one (by simp) (r.eval ((ht x (by simp [Op.operands])).trans hx)) rfl
    simp only [Rd] at h
    obtain ⟨b, off, c, h1, h2, h3, h4⟩ := h
    injection h1 with h1
    obtain ⟨m, ys, g, rfl, k1, k2, k3, k4⟩ := fldA_some hf
    simp only [Rd] at h4
    obtain ⟨c1, c2, c3, rfl, m1, m2, _⟩ := Rds_at h4.2 k1
    obtain ⟨_, F, hu, hF⟩ := tb.ok s _ hs
    obtain ⟨fd, hfd, hfo, hft⟩ := fields_at hF f o (sizeA z) g k2
    have hz := run_sizeOf_of hft w
    have hne : sizeA z ≠ 0 := by omega
    refine ⟨.pointer (some ⟨b, off + o, none⟩), ?_, ?_⟩
    · simp [execOp, h1, Instr.fieldAt, run_underlying hu, hfd, Instr.sureAddr, fieldPlace, hz, hne, hfo, add_lit]
    · rw [Rdv_not (by simp)]
      refine ⟨[_], ?_, rfl⟩
      simp only [Rd]
      refine ⟨b, off + o, c2, rfl, ?_, fun q hq1 hq2 => h3 q (by omega) (by simp; omega), m2⟩
      rw [k3, ← m1]; exact row_mid h2
theorem ok_idx_sl {x ix : Operand} {t e : TypeId} {es bytes : Nat} {ea : Bool} {tok : Option Nat} {xs : List AV} {k : IntKind} {i : Int} {y : AV} (hd : dOk nt d = true) (hs : tb.ti t = some (.sl e es bytes ea)) (hx : evalO T x = some (.sl tok es xs)) (hi : evalO T ix = some (.v (.int k i)))
    (h0 : 0 ≤ i) (hy : xs[i.toNat]? = some y) : OpOK P E nt ops ⟨d, .indexAddr t x ix, ty, pos, af, gd⟩ T H [] ⟨.ref y, []⟩ :=
  ok_val hd fun B T' H' a w r ht hh => by
    have h := Rdv_one (by simp) (r.eval ((ht x (by simp [Op.operands])).trans hx)) rfl
    have hj := r.evalv ((ht ix (by simp [Op.operands])).trans hi)
    simp only [Rd] at h
    obtain ⟨A, cap, h1, h2, h3, h4, _⟩ := h
    injection h1 with h1
    have hlt : i.toNat < xs.length := (List.getElem?_eq_some_iff.1 hy).1
    obtain ⟨b, off, c, rfl, k1, k2, k3⟩ := h4 (by omega)
    obtain ⟨c1, c2, c3, rfl, m1, mn, m2, _⟩ := Rdu_at k3 hy
    obtain ⟨_, hu, he, _⟩ := tb.ok t _ hs
    have hz := run_sizeOf_of he w
    have hlt' : i < (xs.length : Int) := by omega
    have hl := Rdu_len k3
    refine ⟨.pointer (some ⟨b, off + i.toNat * es, none⟩), ?_, ?_⟩
    · simp [execOp, h1, hj, Instr.indexAt, run_underlying hu, asIntOf, hz, h0, hlt', add_lit]
    · rw [Rdv_not (by simp)]
      refine ⟨[_], ?_, rfl⟩
      simp only [Rd]
      refine ⟨b, off + i.toNat * es, c2, rfl, ?_, fun q hq1 hq2 => k2 q (by omega) (by simp at hl; omega), m2⟩
      rw [← m1]; rw [← hl] at k1; exact row_mid k1
theorem ok_idx_refarr {x ix : Operand} {t e : TypeId} {tn len es : Nat} {ea : Bool} {m : Nat} {xs : List AV} {k : IntKind} {i : Int} {y : AV} (hd : dOk nt d = true) (hs : tb.ti t = some (.arr tn len es ea e)) (hx : evalO T x = some (.ref (.arr m es xs))) (hi : evalO T ix = some (.v (.int k i)))
    (h0 : 0 ≤ i) (hl : i < (len : Int)) (hy : xs[i.toNat]? = some y) : OpOK P E nt ops ⟨d, .indexAddr t x ix, ty, pos, af, gd⟩ T H [] ⟨.ref y, []⟩ :=
  ok_val hd fun B T' H' a w r ht hh => by
    have h := Rdv_one (by simp) (r.eval ((ht x (by simp [Op.operands])).trans hx)) rfl
    have hj := r.evalv ((ht ix (by simp [Op.operands])).trans hi)
    simp only [Rd] at h
    obtain ⟨b, off, c, h1, h2, h3, h4, h5⟩ := h
    injection h1 with h1
    obtain ⟨c1, c2, c3, rfl, m1, mn, m2, _⟩ := Rdu_at h5 hy
    obtain ⟨_, hu, he⟩ := tb.ok t _ hs
    have hz := run_sizeOf_of he w
    refine ⟨.pointer (some ⟨b, off + i.toNat * es, none⟩), ?_, ?_⟩
    · simp [execOp, h1, hj, Instr.indexAt, run_underlying hu, asIntOf, hz, h0, hl, add_lit, Instr.sureAddr]
    · rw [Rdv_not (by simp)]
      refine ⟨[_], ?_, rfl⟩
      simp only [Rd]
      refine ⟨b, off + i.toNat * es, c2, rfl, ?_, fun q hq1 hq2 => h3 q (by omega) (by simp; omega), m2⟩
      rw [← m1]; exact row_mid h2
/-! a variable's own memory -/
def boxAV : Bx → Option AV
  | .var x => some x
  | .froz x => some x
  | .tail _ _ _ => none
theorem box_row {B : Blk} {a : Act} {w : World} (r : Rel E nt B T H a w) {g b : Nat} {bx : Bx} {x : AV} (hg : H g = some bx) (hx : boxAV bx = some x) (hb : B g = some b) : ∃ cs, row? w b 0 cs.length = some cs.toArray ∧ Rd (unst E B H) w x B H cs := by
  have h := r.box g bx hg
  cases bx with
  | var y =>
    obtain ⟨b', cs, t, k1, k2, k3, _⟩ := h
    rw [hb] at k1; injection k1 with k1; subst k1
    simp only [boxAV, Option.some.injEq] at hx; subst hx
    exact ⟨cs, by rw [row_block k2]; exact rowOf_full _ _ (by simp), k3⟩
  | froz y =>
    obtain ⟨b', cs, k1, k2, _, k4⟩ := h
    rw [hb] at k1; injection k1 with k1; subst k1
    simp only [boxAV, Option.some.injEq] at hx; subst hx
    exact ⟨cs, k2, k4⟩
  | tail e n k => simp [boxAV] at hx
theorem ok_load_ptr {x : Operand} {t : TypeId} {g off : Nat} {p : List Nat} {bx : Bx} {y z : AV} (hd : dOk nt d = true) (hx : evalO T x = some (.ptr g off p)) (hg : H g = some bx) (hb : boxAV bx = some y) (hp : subA p y = some z) (ho : offA p y = off) (hs : tb.sa t = some (isAggA z, sizeA z)) :
    OpOK P E nt ops ⟨d, .load t x, ty, pos, af, gd⟩ T H [g] ⟨z, []⟩ :=
  ok_val hd fun B T' H' a w r ht hh => by
    have h := Rdv_one (by simp) (r.eval ((ht x (by simp [Op.operands])).trans hx)) rfl
    simp only [Rd] at h
    obtain ⟨_, b, h1, h2⟩ := h
    injection h2 with h2
    obtain ⟨cs, k1, k2⟩ := box_row r ((hh g (by simp)).trans hg) hb h1
    obtain ⟨c1, c2, c3, rfl, m1, m2, _⟩ := Rd_sub p k2 hp
    have hrow := row_mid k1
    rw [Nat.zero_add, m1, ho] at hrow
    have hr := run_loadVar_of (tb.tyOf hs) (by rw [← Rd_len m2]; exact hrow) size1
    rw [pack_if m2] at hr
    refine ⟨pack z c2, ?_, by rw [Rdv_not (Rd_notup m2)]; exact ⟨c2, m2, rfl⟩⟩
    simp [execOp, h2, Instr.loadAt, Instr.sureAddr, hr]
theorem ok_fld_ptr {x : Operand} {s : TypeId} {f n o sz : Nat} {ag : Bool} {fs : List (Nat × Nat × Bool)} {g off : Nat} {p : List Nat} (hd : dOk nt d = true) (hx : evalO T x = some (.ptr g off p)) (hs : tb.ti s = some (.st n fs)) (hf : fs[f]? = some (o, sz + 1, ag)) :
    OpOK P E nt ops ⟨d, .fieldAddr s x f, ty, pos, af, gd⟩ T H [] ⟨.ptr g (off + o) (p ++ [f]), []⟩ :=
  ok_val hd fun B T' H' a w r ht hh => by
    have h := Rdv_one (by simp) (r.eval ((ht x (by simp [Op.operands])).trans hx)) rfl
    simp only [Rd] at h
    obtain ⟨hv, b, h1, h2⟩ := h
    injection h2 with h2
    obtain ⟨_, F, hu, hF⟩ := tb.ok s _ hs
    obtain ⟨fd, hfd, hfo, hft⟩ := fields_at hF f o (sz + 1) ag hf
    have hz := run_sizeOf_of hft w
    refine ⟨.pointer (some ⟨b, off + o, none⟩), ?_, ?_⟩
    · simp [execOp, h2, Instr.fieldAt, run_underlying hu, hfd, Instr.sureAddr, fieldPlace, hz, hfo, add_lit]
    · rw [Rdv_not (by simp)]
      exact ⟨_, by simp only [Rd]; exact ⟨hv, b, h1, rfl⟩, rfl⟩
theorem ok_idx_ptr {x ix : Operand} {t e : TypeId} {tn len es : Nat} {ea : Bool} {g off : Nat} {p : List Nat} {k : IntKind} {i : Int} (hd : dOk nt d = true) (hs : tb.ti t = some (.arr tn len es ea e)) (hx : evalO T x = some (.ptr g off p)) (hi : evalO T ix = some (.v (.int k i)))
    (h0 : 0 ≤ i) (hl : i < (len : Int)) : OpOK P E nt ops ⟨d, .indexAddr t x ix, ty, pos, af, gd⟩ T H [] ⟨.ptr g (off + i.toNat * es) (p ++ [i.toNat]), []⟩ :=
  ok_val hd fun B T' H' a w r ht hh => by
    have h := Rdv_one (by simp) (r.eval ((ht x (by simp [Op.operands])).trans hx)) rfl
    have hj := r.evalv ((ht ix (by simp [Op.operands])).trans hi)
    simp only [Rd] at h
    obtain ⟨hv, b, h1, h2⟩ := h
    injection h2 with h2
    obtain ⟨_, hu, he⟩ := tb.ok t _ hs
    have hz := run_sizeOf_of he w
    refine ⟨.pointer (some ⟨b, off + i.toNat * es, none⟩), ?_, ?_⟩
    · simp [execOp, h2, hj, Instr.indexAt, run_underlying hu, asIntOf, hz, h0, hl, add_lit, Instr.sureAddr]
    · rw [Rdv_not (by simp)]
      exact ⟨_, by simp only [Rd]; exact ⟨hv, b, h1, rfl⟩, rfl⟩
end
end Go.Proofs.Ytigbkhjcboecjaa
