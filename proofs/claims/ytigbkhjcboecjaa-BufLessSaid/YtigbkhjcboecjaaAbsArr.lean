/-
  AbsArr: arrays of the function's own: built whole, an element's address by a number.
-/
import Derived.Test.YtigbkhjcboecjaaAbsNode
namespace Go.Proofs.Ytigbkhjcboecjaa
open Go Go.RowKit
set_option linter.unusedVariables false
set_option linter.unusedSimpArgs false

theorem sumS_u {n : Nat} : ∀ (zs : List AV) (i : Nat), (∀ z ∈ zs, sizeA z = n) → i ≤ zs.length → sumS (zs.take i) = i * n
  | zs, 0, h, hi => by simp [sumS]
  | [], i + 1, h, hi => by simp at hi
  | z :: zs, i + 1, h, hi => by
    simp only [List.take_succ_cons, sumS]
    rw [sumS_u zs i (fun z hz => h z (List.mem_cons_of_mem _ hz)) (by simpa using hi), h z (by simp), Nat.succ_mul]
    omega
section
variable {P : Program} {E : Env} {nt : Nat} {ops : Array Oper} {T : Nat → Option AV} {H : Hp} {d : Option Nat} {ty : TypeId} {pos : String} {af : Array Edge} {gd : Option (Nat × Bool)} (tb : Tab P)
theorem ok_bldarr {t e : TypeId} {tn len es : Nat} {ea : Bool} {l : List (Nat × Operand)} {vs : List (Nat × AV)} {zs out ys : List AV} (hd : dOk nt d = true) (hs : tb.ti t = some (.arr tn len es ea e)) (hz : ZeroOk P t (.arr tn es zs)) (hv : partsA T l = some vs) (ho : fillA vs zs = some out) (hw : ∀ H', WkL H' out ys)
    (hzs : zs.all (fun x => Nat.beq (sizeA x) es) = true) (hos : out.all (fun x => Nat.beq (sizeA x) es) = true) (hlen : out.length = zs.length) :
    OpOK P E nt ops ⟨d, .build t l.toArray, ty, pos, af, gd⟩ T H [] ⟨.arr tn es ys, []⟩ :=
  ok_val hd fun B T' H' a w r ht hh => by
    obtain ⟨⟨_, hu0, _, _⟩, hu, hte⟩ := tb.ok t _ hs
    obtain ⟨i, zv, z1, z2, z3⟩ := hz
    have hzr := z3 (unst E B H') w
    simp only [Rd] at hzr
    have hzl : ∀ z ∈ zs, sizeA z = es := fun x hx => Nat.eq_of_beq_eq_true (List.all_eq_true.1 hzs x hx)
    have hol : ∀ z ∈ out, sizeA z = es := fun x hx => Nat.eq_of_beq_eq_true (List.all_eq_true.1 hos x hx)
    have hm := Rdu_rds (Rdu_go (Evo.refl _ w) (fun _ _ _ h => h) _ _ ⟨fun g b h _ => by simp [H0, isVar] at h, fun g h => by simp [H0, isVar] at h, fun t n len A cap h => by obtain ⟨e, k, h, _⟩ := h; simp [H0] at h⟩ hzr.2 : Rdu (unst E B H') w es zs B H' _)
    have hv' := parts_agree hv (T' := T') (fun p hp => ht p.2 (by simp [Op.operands]; exact ⟨p.1, hp⟩))
    obtain ⟨cells', q1, q2⟩ := fill_rds r l vs zs out _ hv' ho (place := fun i => some (i * es, es)) (fun i y h => by
      have hlt := (List.getElem?_eq_some_iff.1 h).1
      rw [sumS_u zs i hzl (by omega), hzl y (List.mem_of_getElem? h)]) hm
    have hrdu := (hw H').rdu (Rds_rdu q2 hol)
    have hcl : cells'.length = tn := by
      have e1 := Rdu_len (Rds_rdu q2 hol)
      have e2 := Rdu_len hzr.2
      rw [e1, hlen, ← e2, hzr.1]
    obtain ⟨de, hie⟩ : ∃ ie, P.info? e = some ie ∧ ie.size = es := by
      obtain ⟨_, _, _, h⟩ := hte
      cases hi : P.info? e with
      | none => rw [hi] at h; cases h
      | some ie => rw [hi] at h; simp at h; exact ⟨ie, rfl, h⟩
    have hb : P.built t (l.map fun p => (p.1, a.eval p.2)) = some cells'.toArray := by
      unfold Program.built
      simp only [z1, hu, z2, hie.1, hie.2]
      have := fill_of_fillS _ _ _ q1
      simpa using this
    refine ⟨.agg cells'.toArray, ?_, ?_⟩
    · have hrb := run_build (P := P) w t (l.map fun p => (p.1, a.eval p.2)).toArray cells'.toArray (by simpa using hb)
      simp only [execOp]
      have hm : (Array.map (fun x => (x.1, a.eval x.2)) l.toArray) = (l.map fun p => (p.1, a.eval p.2)).toArray := by simp
      simp only [hm, Sem.run_bind, hrb]
      rfl
    · rw [Rdv_not (by simp)]
      exact ⟨cells', by simp only [Rd]; exact ⟨hcl, hrdu⟩, rfl⟩
end
section
variable {E : Env} {nt : Nat} {ops : Array Oper} {T : Nat → Option AV} {H : Hp} {d : Option Nat} {ty : TypeId} {pos : String} {af : Array Edge} {gd : Option (Nat × Bool)}
set_option maxRecDepth 100000 in
theorem o_blda {t e : TypeId} {tn len es : Nat} {ea : Bool} {l : List (Nat × Operand)} {vs : List (Nat × AV)} {zs out out' : List AV} {z : AV} (hz : ZeroOk Try.prog t z) (hze : z = .arr tn es zs) (hd : dOk nt d = true) (hs : tabT.ti t = some (.arr tn len es ea e)) (hv : partsA T l = some vs) (ho : fillA vs zs = some out) (hw : weakA out = some out')
    (hzs : zs.all (fun x => Nat.beq (sizeA x) es) = true) (hos : out.all (fun x => Nat.beq (sizeA x) es) = true) (hlen : out.length = zs.length) :
    OpOK Try.prog E nt ops ⟨d, .build t l.toArray, ty, pos, af, gd⟩ T H [] ⟨.arr tn es out', []⟩ := by
  subst hze
  exact ok_bldarr tabT hd hs hz hv ho (fun _ => weakA_wkl _ _ hw) hzs hos hlen
/-- an element's address in an array of the function's own -/
theorem o_idxa {x ix : Operand} {t e : TypeId} {tn len es : Nat} {ea : Bool} {g off : Nat} {p : List Nat} {k : IntKind} {i : Int} {j : Nat} (hd : dOk nt d = true) (hs : tabT.ti t = some (.arr tn len es ea e)) (hx : evalO T x = some (.ptr g off p)) (hi : evalO T ix = some (.v (.int k i)))
    (hj : natOf i = some j) (hl : Nat.blt j len = true) : OpOK Try.prog E nt ops ⟨d, .indexAddr t x ix, ty, pos, af, gd⟩ T H [] ⟨.ptr g (off + j * es) (p ++ [j]), []⟩ := by
  have := natOf_eq hj; subst this
  have hl' : j < len := Nat.le_of_ble_eq_true hl
  exact ok_idx_ptr tabT hd hs hx hi (Int.natCast_nonneg j) (by omega)
/-- an element of an array that is handed in -/
theorem o_idxra {x ix : Operand} {t e : TypeId} {tn len es : Nat} {ea : Bool} {m : Nat} {xs : List AV} {k : IntKind} {i : Int} {j : Nat} {y : AV} (hd : dOk nt d = true) (hs : tabT.ti t = some (.arr tn len es ea e)) (hx : evalO T x = some (.ref (.arr m es xs))) (hi : evalO T ix = some (.v (.int k i))) (hj : natOf i = some j) (hl : Nat.blt j len = true) (hy : xs[j]? = some y) :
    OpOK Try.prog E nt ops ⟨d, .indexAddr t x ix, ty, pos, af, gd⟩ T H [] ⟨.ref y, []⟩ := by
  have := natOf_eq hj; subst this
  have hl' : j < len := Nat.le_of_ble_eq_true hl
  exact ok_idx_refarr tabT hd hs hx hi (Int.natCast_nonneg j) (by omega) (by simpa using hy)
end

/-! ### zero values, by a table -/
theorem zero_u64 : ZeroOk Try.prog 31 (u64A 0#64) := zero_of (v := .int .u64 0) (n := 1) (by kernel_rfl) fun U w => (rd_v rfl).2 (by rw [D64_zero]; rfl)
theorem zero_bool : ZeroOk Try.prog 4 (boolA false) := zero_of (v := .bool false) (n := 1) (by kernel_rfl) fun U w => (rd_v rfl).2 rfl
theorem zero_slents : ZeroOk Try.prog 54 (.v (.slice none 0 0)) := zero_of (v := .slice none 0 0) (n := 1) (by kernel_rfl) fun U w => (rd_v rfl).2 rfl
theorem zero_slmsgs : ZeroOk Try.prog 23 (.v (.slice none 0 0)) := zero_of (v := .slice none 0 0) (n := 1) (by kernel_rfl) fun U w => (rd_v rfl).2 rfl
def zeroT (t : TypeId) : Option AV :=
  bif Nat.beq t 27 then some Key.zero.av else
  bif Nat.beq t 34 then some Vl.zero.av else
  bif Nat.beq t 36 then some Msg.zero.av else
  bif Nat.beq t 75 then some Ent.zero.av else
  bif Nat.beq t 3 then some (intA 0) else
  bif Nat.beq t 5 then some (byteA 0#8) else
  bif Nat.beq t 31 then some (u64A 0#64) else
  bif Nat.beq t 4 then some (boolA false) else
  bif Nat.beq t 22 then some (.v (.slice none 0 0)) else
  bif Nat.beq t 29 then some (.v (.slice none 0 0)) else
  bif Nat.beq t 54 then some (.v (.slice none 0 0)) else
  bif Nat.beq t 23 then some (.v (.slice none 0 0)) else none
theorem bif_ok {t u : TypeId} {a z : AV} {r : Option AV} (ha : ZeroOk Try.prog u a) (hr : r = some z → ZeroOk Try.prog t z) (h : (bif Nat.beq t u then some a else r) = some z) : ZeroOk Try.prog t z := by
  cases hb : Nat.beq t u with
  | true => rw [hb, cond_true, Option.some.injEq] at h; subst h; have := Nat.eq_of_beq_eq_true hb; subst this; exact ha
  | false => rw [hb, cond_false] at h; exact hr h
set_option maxRecDepth 100000 in
theorem zeroT_ok {t : TypeId} {z : AV} (h : zeroT t = some z) : ZeroOk Try.prog t z := by
  unfold zeroT at h
  refine bif_ok zero_Key (fun h => ?_) h -- 27
  refine bif_ok zero_Vl (fun h => ?_) h -- 34
  refine bif_ok zero_Msg (fun h => ?_) h -- 36
  refine bif_ok zero_Ent (fun h => ?_) h -- 75
  refine bif_ok zero_int (fun h => ?_) h
  refine bif_ok zero_byte (fun h => ?_) h
  refine bif_ok zero_u64 (fun h => ?_) h
  refine bif_ok zero_bool (fun h => ?_) h
  refine bif_ok zero_slints (fun h => ?_) h -- 22
  refine bif_ok zero_slkeys (fun h => ?_) h -- 29
  refine bif_ok zero_slents (fun h => ?_) h
  refine bif_ok zero_slmsgs (fun h => ?_) h
  cases h
section
variable {E : Env} {nt : Nat} {ops : Array Oper} {T : Nat → Option AV} {H : Hp} {d : Option Nat} {ty : TypeId} {pos : String} {af : Array Edge} {gd : Option (Nat × Bool)}
set_option maxRecDepth 100000 in
theorem z_bld {t n : Nat} {fs : List (Nat × Nat × Bool)} {l : List (Nat × Operand)} {vs : List (Nat × AV)} {zs out out' : List AV} (hz : zeroT t = some (.agg n zs)) (hd : dOk nt d = true) (hs : tabT.ti t = some (.st n fs)) (hv : partsA T l = some vs) (ho : fillA vs zs = some out) (hf : forceA out = some out') (hp : placesOk 0 zs fs = true) :
    OpOK Try.prog E nt ops ⟨d, .build t l.toArray, ty, pos, af, gd⟩ T H [] ⟨.agg n out', []⟩ := o_bld (zeroT_ok hz) rfl hd hs hv ho hf hp
set_option maxRecDepth 100000 in
theorem z_blda {t e : TypeId} {tn len es : Nat} {ea : Bool} {l : List (Nat × Operand)} {vs : List (Nat × AV)} {zs out out' : List AV} (hz : zeroT t = some (.arr tn es zs)) (hd : dOk nt d = true) (hs : tabT.ti t = some (.arr tn len es ea e)) (hv : partsA T l = some vs) (ho : fillA vs zs = some out) (hw : weakA out = some out')
    (hzs : zs.all (fun x => Nat.beq (sizeA x) es) = true) (hos : out.all (fun x => Nat.beq (sizeA x) es) = true) (hlen : out.length = zs.length) :
    OpOK Try.prog E nt ops ⟨d, .build t l.toArray, ty, pos, af, gd⟩ T H [] ⟨.arr tn es out', []⟩ := o_blda (zeroT_ok hz) rfl hd hs hv ho hw hzs hos hlen
set_option maxRecDepth 100000 in
theorem z_alloc {e : TypeId} {z : AV} {g : Nat} (hz : zeroT e = some z) (hd : dOk nt (some g) = true) (hg : H g = none) : OpOK Try.prog E nt ops ⟨some g, .alloc e, ty, pos, af, gd⟩ T H [] ⟨.ptr g 0 [], [(g, .var z)]⟩ := o_alloc (zeroT_ok hz) hd hg
set_option maxRecDepth 100000 in
theorem z_bsll {t e : TypeId} {es bytes len : Nat} {ea : Bool} {l : List (Nat × Operand)} {z : AV} {out ys : List AV} {g : Nat} (hs : tabT.ti t = some (.sl e (es + 1) bytes ea)) (hz : zeroT e = some z) (hzs : sizeA z = es + 1) (hd : dOk nt (some g) = true) (hv : seqA T (es + 1) 0 l = some out) (hg : H g = none)
    (hlen : out.length = len + 1) (hsmall : Nat.ble ((len + 1) * (es + 1)) 16777216 = true) (hw : weakA out = some ys) :
    OpOK Try.prog E nt ops ⟨some g, .buildSlice t (len + 1) l.toArray, ty, pos, af, gd⟩ T H [] ⟨.sl (some g) (es + 1) ys, [(g, .tail e (es + 1) (len + 1))]⟩ := o_bsll (zeroT_ok hz) hzs hd hs hv hg hlen hsmall hw
end
/-! ### entries built whole -/
section
variable {E : Env} {nt : Nat} {ops : Array Oper} {T : Nat → Option AV} {H : Hp} {d : Option Nat} {ty : TypeId} {pos : String} {af : Array Edge} {gd : Option (Nat × Bool)}
set_option maxRecDepth 100000 in
theorem e_bld {x y : Operand} {a : Key} {b : Vl} (hd : dOk nt d = true) (hx : evalO T x = some a.av) (hy : evalO T y = some b.av) : OpOK Try.prog E nt ops ⟨d, .build 75 #[(0, x), (1, y)], ty, pos, af, gd⟩ T H [] ⟨Ent.av ⟨a, b⟩, []⟩ :=
  z_bld (l := [(0, x), (1, y)]) (vs := [(0, a.av), (1, b.av)]) (zs := [Key.zero.av, Vl.zero.av]) (out := [a.av, b.av]) (out' := [a.av, b.av]) (n := 26) rfl hd rfl (by simp only [partsA, hx, hy]; rfl) rfl rfl rfl
set_option maxRecDepth 100000 in
theorem e_bldk {x : Operand} {a : Key} (hd : dOk nt d = true) (hx : evalO T x = some a.av) : OpOK Try.prog E nt ops ⟨d, .build 75 #[(0, x)], ty, pos, af, gd⟩ T H [] ⟨Ent.av ⟨a, Vl.zero⟩, []⟩ :=
  z_bld (l := [(0, x)]) (vs := [(0, a.av)]) (zs := [Key.zero.av, Vl.zero.av]) (out := [a.av, Vl.zero.av]) (out' := [a.av, Vl.zero.av]) (n := 26) rfl hd rfl (by simp only [partsA, hx]; rfl) rfl rfl rfl
theorem o_quo2 {t t' : TypeId} {x y : Operand} {a : Nat} (hd : dOk nt d = true) (hx : evalO T x = some (.v (.int .i64 (a : Nat)))) (hy : evalO T y = some (.v (.int .i64 2))) (h : a ≤ 9223372036854775807) : OpOK Try.prog E nt ops ⟨d, .binOp .quo t x y t', ty, pos, af, gd⟩ T H [] ⟨.v (.int .i64 ((a / 2 : Nat) : Int)), []⟩ := by
  have := o_quo (E := E) (ops := ops) (H := H) (ty := ty) (pos := pos) (af := af) (gd := gd) (t := t) (t' := t') hd hx hy (by omega)
  rwa [show ((a : Nat) : Int) / 2 = ((a / 2 : Nat) : Int) from by omega] at this
end
end Go.Proofs.Ytigbkhjcboecjaa
