/-
  AbsStep: the plain operations of a walk, by one reckoning; calls by contracts at hand; guards by facts at hand.
-/
import Derived.Test.YtigbkhjcboecjaaAbsTac
namespace Go.Proofs.Ytigbkhjcboecjaa
open Go Go.RowKit
set_option linter.unusedVariables false
set_option linter.unusedSimpArgs false

def cmpA : BinOp → Int → Int → Option Bool
  | .lss, a, b => some (decide (a < b))
  | .leq, a, b => some (decide (a ≤ b))
  | .gtr, a, b => some (decide (b < a))
  | .geq, a, b => some (decide (b ≤ a))
  | .eql, a, b => some (decide (a = b))
  | .neq, a, b => some (decide (a ≠ b))
  | _, _, _ => none
def cmpB : BinOp → Bool → Bool → Option Bool
  | .eql, a, b => some (decide (a = b))
  | .neq, a, b => some (decide (a ≠ b))
  | _, _, _ => none
def saB (t : TypeId) (y : AV) : Bool := match tabT.sa t with
  | some (g, n) => g == isAggA y && Nat.beq n (sizeA y)
  | none => false
theorem saB_eq {t : TypeId} {y : AV} (h : saB t y = true) : tabT.sa t = some (isAggA y, sizeA y) := by
  unfold saB at h
  split at h
  · rename_i g n e
    rw [Bool.and_eq_true, beq_iff_eq] at h
    rw [e, h.1, Nat.eq_of_beq_eq_true h.2]
  · cases h
def binA (T : Nat → Option AV) (b : BinOp) (t : TypeId) (x y : Operand) : Option AV := match evalO T x, evalO T y with
  | some (.v (.int k p)), some (.v (.int k' q)) => if k = k' then (match cmpA b p q with
    | some c => some (.v (.bool c))
    | none => none) else none
  | some (.v (.bool p)), some (.v (.bool q)) => bif Nat.beq t 4 then (match cmpB b p q with
    | some c => some (.v (.bool c))
    | none => none) else none
  | _, _ => none
def loadA (T : Nat → Option AV) (H : Hp) (t : TypeId) (x : Operand) : Option (AV × List Nat) := match evalO T x with
  | some (.ref y) => bif saB t y then some (y, []) else none
  | some (.ptr g off p) => match H g with
    | some bx => match boxAV bx with
      | some y => match subA p y with
        | some z => bif Nat.beq (offA p y) off && saB t z then some (z, [g]) else none
        | none => none
      | none => none
    | none => none
  | _ => none
def fieldA (T : Nat → Option AV) (s : TypeId) (x : Operand) (f : Nat) : Option AV := match evalO T x, tabT.ti s with
  | some (.ref y), some (.st n fs) => match fldA fs y f with
    | some (o, z) => some (.ref z)
    | none => none
  | some (.ptr g off p), some (.st n fs) => match fs[f]? with
    | some (o, sz + 1, ag) => some (.ptr g (off + o) (p ++ [f]))
    | _ => none
  | _, _ => none
def stepA (T : Nat → Option AV) (H : Hp) : Op → Option (AV × List Nat)
  | .move x => match evalO T x with
    | some v => some (v, [])
    | none => none
  | .assign x => match evalO T x with
    | some v => some (v, [])
    | none => none
  | .pick c x y => match evalO T c with
    | some (.v (.bool true)) => match evalO T x with
      | some v => some (v, [])
      | none => none
    | some (.v (.bool false)) => match evalO T y with
      | some v => some (v, [])
      | none => none
    | _ => none
  | .extract x i => match evalO T x with
    | some (.tup vs) => match vs[i]? with
      | some v => some (v, [])
      | none => none
    | _ => none
  | .binOp b t x y t' => match binA T b t x y with
    | some v => some (v, [])
    | none => none
  | .unOp .not t x => match evalO T x with
    | some (.v (.bool p)) => some (.v (.bool (!p)), [])
    | _ => none
  | .load t x => loadA T H t x
  | .fieldAddr s x f => match fieldA T s x f with
    | some v => some (v, [])
    | none => none
  | _ => none
section
variable {E : Env} {nt : Nat} {ops : Array Oper} {T : Nat → Option AV} {H : Hp} {d : Option Nat} {ty : TypeId} {pos : String} {af : Array Edge} {gd : Option (Nat × Bool)}
set_option maxRecDepth 100000 in
theorem step_ok {op : Op} {v : AV} {rh : List Nat} (h : stepA T H op = some (v, rh)) (hd : dOk nt d = true) : OpOK Try.prog E nt ops ⟨d, op, ty, pos, af, gd⟩ T H rh ⟨v, []⟩ := by
  unfold stepA at h
  split at h
  · split at h <;> (try cases h)
    rename_i x v hx
    exact ok_move hd hx
  · split at h <;> (try cases h)
    rename_i x v hx
    exact ok_assign hd hx
  · split at h
    · rename_i c x y hc
      split at h <;> (try cases h)
      rename_i v hx
      exact ok_pick_t hd hc hx
    · rename_i c x y hc
      split at h <;> (try cases h)
      rename_i v hx
      exact ok_pick_f hd hc hx
    · cases h
  · split at h
    · rename_i x i vs hx
      split at h <;> (try cases h)
      rename_i v hv
      exact ok_extract hd hx hv
    · cases h
  · split at h <;> (try cases h)
    rename_i b t x y t' v hb
    unfold binA at hb
    split at hb
    · rename_i k p k' q hx hy
      split at hb
      · rename_i hk
        subst hk
        split at hb
        · rename_i c hc
          injection hb with hb; subst hb
          cases b <;> simp only [cmpA, Option.some.injEq, reduceCtorEq] at hc <;> subst hc
          · exact ok_eql hd hx hy
          · exact ok_neq hd hx hy
          · exact ok_lss hd hx hy
          · exact ok_leq hd hx hy
          · exact ok_gtr hd hx hy
          · exact ok_geq hd hx hy
        · cases hb
      · cases hb
    · rename_i p q hx hy
      cases ht : Nat.beq t 4 with
      | false => rw [ht] at hb; cases hb
      | true =>
        rw [ht] at hb
        simp only [cond_true] at hb
        have := Nat.eq_of_beq_eq_true ht
        subst this
        split at hb
        · rename_i c hc
          injection hb with hb; subst hb
          cases b <;> simp only [cmpB, Option.some.injEq, reduceCtorEq] at hc <;> subst hc
          · exact ok_eql_b Try.underlying4 hd hx hy
          · exact ok_neq_b Try.underlying4 hd hx hy
        · cases hb
    · cases hb
  · split at h
    · rename_i t x p hx
      cases h
      exact ok_not hd hx
    · cases h
  · rename_i t x
    unfold loadA at h
    split at h
    · rename_i y hx
      cases hs : saB t y with
      | false => rw [hs] at h; cases h
      | true =>
        rw [hs] at h
        cases h
        exact ok_load_ref tabT hd hx (saB_eq hs)
    · rename_i g off p hx
      split at h
      · rename_i bx hg
        split at h
        · rename_i y hb
          split at h
          · rename_i z hp
            cases hs : (Nat.beq (offA p y) off && saB t z) with
            | false => rw [hs] at h; cases h
            | true =>
              rw [hs] at h
              cases h
              rw [Bool.and_eq_true] at hs
              exact ok_load_ptr tabT hd hx hg hb hp (Nat.eq_of_beq_eq_true hs.1) (saB_eq hs.2)
          · cases h
        · cases h
      · cases h
    · cases h
  · split at h <;> (try cases h)
    rename_i s x f v hf
    unfold fieldA at hf
    split at hf
    · rename_i y n fs hx hs
      split at hf
      · rename_i o z hz
        injection hf with hf; subst hf
        exact ok_fld_ref tabT hd hx hs hz
      · cases hf
    · rename_i g off p n fs hx hs
      split at hf
      · rename_i o sz ag hz
        injection hf with hf; subst hf
        exact ok_fld_ptr tabT hd hx hs hz
      · cases hf
    · cases hf
  · cases h
end
section
variable {E : Env} {nt : Nat} {ops : Array Oper} {T : Nat → Option AV} {H : Hp} {d : Option Nat} {ty : TypeId} {pos : String} {af : Array Edge} {gd : Option (Nat × Bool)}
theorem o_sub1 {t t' : TypeId} {x y : Operand} {a : Nat} (hd : dOk nt d = true) (hx : evalO T x = some (.v (.int .i64 ((a + 1 : Nat) : Int)))) (hy : evalO T y = some (.v (.int .i64 1))) (h : a ≤ 9223372036854775807) : OpOK Try.prog E nt ops ⟨d, .binOp .sub t x y t', ty, pos, af, gd⟩ T H [] ⟨.v (.int .i64 (a : Nat)), []⟩ := by
  have := o_sub (E := E) (ops := ops) (H := H) (ty := ty) (pos := pos) (af := af) (gd := gd) (t := t) (t' := t') hd hx hy (by omega)
  rwa [show ((a + 1 : Nat) : Int) - 1 = (a : Nat) from by omega] at this
end
section
variable {E : Env} {nt : Nat} {ops : Array Oper} {T : Nat → Option AV} {H : Hp} {d : Option Nat} {ty : TypeId} {pos : String} {af : Array Edge} {gd : Option (Nat × Bool)}
/-- an element of a row told one by one -/
theorem o_idxr {x ix : Operand} {t e : TypeId} {es bytes : Nat} {ea : Bool} {tok : Option Nat} {xs : List AV} {k : IntKind} {n : Int} {i : Nat} {y : AV} (hd : dOk nt d = true) (hs : tabT.ti t = some (.sl e es bytes ea)) (hx : evalO T x = some (.sl tok es xs)) (hi : evalO T ix = some (.v (.int k n))) (hn : natOf n = some i) (hy : xs[i]? = some y) :
    OpOK Try.prog E nt ops ⟨d, .indexAddr t x ix, ty, pos, af, gd⟩ T H [] ⟨.ref y, []⟩ := by
  have := natOf_eq hn; subst this
  exact ok_idx_sl tabT hd hs hx hi (Int.natCast_nonneg i) (by simpa using hy)
end
/-- a contract with what a call of it wants -/
def ACall (f : FuncId) (args : List AV) (r : AV) : Prop := ∃ fn, Try.prog.funcs[f]? = some fn ∧ fn.body.isSome = true ∧ (fn.name == "runtime.NumGoroutine") = false ∧ AFn Try.prog f args r
theorem acall {f : FuncId} {fn : Func} {args : List AV} {r : AV} (hf : Try.prog.funcs[f]? = some fn) (hc : AFn Try.prog f args r) (hb : fn.body.isSome = true) (hn : (fn.name == "runtime.NumGoroutine") = false) : ACall f args r := ⟨fn, hf, hb, hn, hc⟩
section
variable {E : Env} {nt : Nat} {ops : Array Oper} {T : Nat → Option AV} {H : Hp} {d : Option Nat} {ty : TypeId} {pos : String} {af : Array Edge} {gd : Option (Nat × Bool)}
theorem o_acall {f : FuncId} {l : List Operand} {ats : Array TypeId} {xs ys : List AV} {y : AV} (hd : dOk nt d = true) (hx : argsA T l = some xs) (hw : weakA xs = some ys) (hnt : xs.all notTup = true) (hc : ACall f ys y) : OpOK Try.prog E nt ops ⟨d, .call { callee := .value (.func f), args := l.toArray, argTypes := ats }, ty, pos, af, gd⟩ T H [] ⟨y, []⟩ := by
  obtain ⟨fn, h1, h2, h3, h4⟩ := hc
  exact o_call h1 h4 h2 h3 hd hx (fun _ => weakA_wkl _ _ hw) hnt
end
section
variable {P : Program} {E : Env} {nt : Nat} {ops : Array Oper} {l : List Oper} {T : List (Nat × AV)} {H : List (Nat × Bx)} {rs : List Rec} {K : St → List Rec → Prop} {op : Op} {ty : TypeId} {pos : String} {af : Array Edge} {d : Option Nat}
theorem want_t {T : Nat → Option AV} {j : Nat} {b : Bool} {xs : List AV} (h : ((ops[j]?).bind (·.dst)).bind T = some (.tup xs)) : wantedA ops ⟨d, op, ty, pos, af, some (j, b)⟩ T = some false := by
  unfold wantedA; simp [h]
/-- a guard's slot, where a fact at hand tells it -/
theorem Wgt {j s : Nat} {b : Bool} {p : Prop} [Decidable p] (hj : ((ops[j]?).bind (·.dst)) = some s) (hs : look s T = some (.v (.bool (decide p)))) (hp : p) (h : AWops P E nt ops (⟨d, op, ty, pos, af, some (j, b)⟩ :: l) ⟨(s, .v (.bool true)) :: T, H⟩ rs K) : AWops P E nt ops (⟨d, op, ty, pos, af, some (j, b)⟩ :: l) ⟨T, H⟩ rs K := Wtest s true hs (decide_eq_true hp) h
theorem Wgf {j s : Nat} {b : Bool} {p : Prop} [Decidable p] (hj : ((ops[j]?).bind (·.dst)) = some s) (hs : look s T = some (.v (.bool (decide p)))) (hp : ¬ p) (h : AWops P E nt ops (⟨d, op, ty, pos, af, some (j, b)⟩ :: l) ⟨(s, .v (.bool false)) :: T, H⟩ rs K) : AWops P E nt ops (⟨d, op, ty, pos, af, some (j, b)⟩ :: l) ⟨T, H⟩ rs K := Wtest s false hs (decide_eq_false hp) h
theorem Wgb {j s : Nat} {b c e : Bool} (hj : ((ops[j]?).bind (·.dst)) = some s) (hs : look s T = some (.v (.bool c))) (hp : c = e) (h : AWops P E nt ops (⟨d, op, ty, pos, af, some (j, b)⟩ :: l) ⟨(s, .v (.bool e)) :: T, H⟩ rs K) : AWops P E nt ops (⟨d, op, ty, pos, af, some (j, b)⟩ :: l) ⟨T, H⟩ rs K := Wtest s e hs hp h
end
end Go.Proofs.Ytigbkhjcboecjaa
