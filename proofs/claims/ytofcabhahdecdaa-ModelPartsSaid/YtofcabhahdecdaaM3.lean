/-
  M3: several texts as one: AbsStep, AbsWord, AbsNode, AbsArr, Opn, KeyPure, FanPure, KeyRefs, KeyWalks, NumPure, NumWalks, VlWalks, VlProg, Law00Walks, Afn, Msg, LeafPure, LeafWalks, LeafPut, LeafPut2, AbsStr, AfnPlace, LawVal, AbsFnv. No condition beyond those that each theorem states.
-/
import Derived.Test.YtofcabhahdecdaaM2
import Derived.Lib.Bytealg
namespace Go.Proofs.Ytofcabhahdecdaa
open Go Go.RowKit
set_option linter.unusedVariables false
set_option linter.unusedSimpArgs false
set_option maxRecDepth 100000

def cmpA : BinOp → Int → Int → Option Bool
  | .lss, a, b => some (decide (a < b))
  | .leq, a, b => some (decide (a ≤ b))
  | .gtr, a, b => some (decide (b < a))
  | .geq, a, b => some (decide (b ≤ a))
  | .eql, a, b => some (decide (a = b))
  | .neq, a, b => some (decide (a ≠ b))
  | _, _, _ => none
def cmpB : BinOp → Bool → Bool → Option Bool
  | .eql, a, b => some (decide (a = b))
  | .neq, a, b => some (decide (a ≠ b))
  | _, _, _ => none
def saB (t : TypeId) (y : AV) : Bool := match tabT.sa t with
  | some (g, n) => g == isAggA y && Nat.beq n (sizeA y)
  | none => false
theorem saB_eq {t : TypeId} {y : AV} (h : saB t y = true) : tabT.sa t = some (isAggA y, sizeA y) := by
  unfold saB at h
  split at h
  · rename_i g n e
    rw [Bool.and_eq_true, beq_iff_eq] at h
    rw [e, h.1, Nat.eq_of_beq_eq_true h.2]
  · cases h
def binA (T : Nat → Option AV) (b : BinOp) (t : TypeId) (x y : Operand) : Option AV := match evalO T x, evalO T y with
  | some (.v (.int k p)), some (.v (.int k' q)) => if k = k' then (match cmpA b p q with
    | some c => some (.v (.bool c))
    | none => none) else none
  | some (.v (.bool p)), some (.v (.bool q)) => bif Nat.beq t 4 then (match cmpB b p q with
    | some c => some (.v (.bool c))
    | none => none) else none
  | _, _ => none
def loadA (T : Nat → Option AV) (H : Hp) (t : TypeId) (x : Operand) : Option (AV × List Nat) := match evalO T x with
  | some (.ref y) => bif saB t y then some (y, []) else none
  | some (.ptr g off p) => match H g with
    | some bx => match boxAV bx with
      | some y => match subA p y with
        | some z => bif Nat.beq (offA p y) off && saB t z then some (z, [g]) else none
        | none => none
      | none => none
    | none => none
  | _ => none
def fieldA (T : Nat → Option AV) (s : TypeId) (x : Operand) (f : Nat) : Option AV := match evalO T x, tabT.ti s with
  | some (.ref y), some (.st n fs) => match fldA fs y f with
    | some (o, z) => some (.ref z)
    | none => none
  | some (.ptr g off p), some (.st n fs) => match fs[f]? with
    | some (o, sz + 1, ag) => some (.ptr g (off + o) (p ++ [f]))
    | _ => none
  | _, _ => none
def stepA (T : Nat → Option AV) (H : Hp) : Op → Option (AV × List Nat)
  | .move x => match evalO T x with
    | some v => some (v, [])
    | none => none
  | .assign x => match evalO T x with
    | some v => some (v, [])
    | none => none
  | .pick c x y => match evalO T c with
    | some (.v (.bool true)) => match evalO T x with
      | some v => some (v, [])
      | none => none
    | some (.v (.bool false)) => match evalO T y with
      | some v => some (v, [])
      | none => none
    | _ => none
  | .extract x i => match evalO T x with
    | some (.tup vs) => match vs[i]? with
      | some v => some (v, [])
      | none => none
    | _ => none
  | .binOp b t x y t' => match binA T b t x y with
    | some v => some (v, [])
    | none => none
  | .unOp .not t x => match evalO T x with
    | some (.v (.bool p)) => some (.v (.bool (!p)), [])
    | _ => none
  | .load t x => loadA T H t x
  | .fieldAddr s x f => match fieldA T s x f with
    | some v => some (v, [])
    | none => none
  | _ => none
section
variable {E : Env} {nt : Nat} {ops : Array Oper} {T : Nat → Option AV} {H : Hp} {d : Option Nat} {ty : TypeId} {pos : String} {af : Array Edge} {gd : Option (Nat × Bool)}
set_option maxRecDepth 100000 in
theorem step_ok {op : Op} {v : AV} {rh : List Nat} (h : stepA T H op = some (v, rh)) (hd : dOk nt d = true) : OpOK Try.prog E nt ops ⟨d, op, ty, pos, af, gd⟩ T H rh ⟨v, []⟩ := by
  unfold stepA at h
  split at h
  · split at h <;> (try cases h)
    rename_i x v hx
    exact ok_move hd hx
  · split at h <;> (try cases h)
    rename_i x v hx
    exact ok_assign hd hx
  · split at h
    · rename_i c x y hc
      split at h <;> (try cases h)
      rename_i v hx
      exact ok_pick_t hd hc hx
    · rename_i c x y hc
      split at h <;> (try cases h)
      rename_i v hx
      exact ok_pick_f hd hc hx
    · cases h
  · split at h
    · rename_i x i vs hx
      split at h <;> (try cases h)
      rename_i v hv
      exact ok_extract hd hx hv
    · cases h
  · split at h <;> (try cases h)
    rename_i b t x y t' v hb
    unfold binA at hb
    split at hb
    · rename_i k p k' q hx hy
      split at hb
      · rename_i hk
        subst hk
        split at hb
        · rename_i c hc
          injection hb with hb; subst hb
          cases b <;> simp only [cmpA, Option.some.injEq, reduceCtorEq] at hc <;> subst hc
          · exact ok_eql hd hx hy
          · exact ok_neq hd hx hy
          · exact ok_lss hd hx hy
          · exact ok_leq hd hx hy
          · exact ok_gtr hd hx hy
          · exact ok_geq hd hx hy
        · cases hb
      · cases hb
    · rename_i p q hx hy
      cases ht : Nat.beq t 4 with
      | false => rw [ht] at hb; cases hb
      | true =>
        rw [ht] at hb
        simp only [cond_true] at hb
        have := Nat.eq_of_beq_eq_true ht
        subst this
        split at hb
        · rename_i c hc
          injection hb with hb; subst hb
          cases b <;> simp only [cmpB, Option.some.injEq, reduceCtorEq] at hc <;> subst hc
          · exact ok_eql_b Try.underlying4 hd hx hy
          · exact ok_neq_b Try.underlying4 hd hx hy
        · cases hb
    · cases hb
  · split at h
    · rename_i t x p hx
      cases h
      exact ok_not hd hx
    · cases h
  · rename_i t x
    unfold loadA at h
    split at h
    · rename_i y hx
      cases hs : saB t y with
      | false => rw [hs] at h; cases h
      | true =>
        rw [hs] at h
        cases h
        exact ok_load_ref tabT hd hx (saB_eq hs)
    · rename_i g off p hx
      split at h
      · rename_i bx hg
        split at h
        · rename_i y hb
          split at h
          · rename_i z hp
            cases hs : (Nat.beq (offA p y) off && saB t z) with
            | false => rw [hs] at h; cases h
            | true =>
              rw [hs] at h
              cases h
              rw [Bool.and_eq_true] at hs
              exact ok_load_ptr tabT hd hx hg hb hp (Nat.eq_of_beq_eq_true hs.1) (saB_eq hs.2)
          · cases h
        · cases h
      · cases h
    · cases h
  · split at h <;> (try cases h)
    rename_i s x f v hf
    unfold fieldA at hf
    split at hf
    · rename_i y n fs hx hs
      split at hf
      · rename_i o z hz
        injection hf with hf; subst hf
        exact ok_fld_ref tabT hd hx hs hz
      · cases hf
    · rename_i g off p n fs hx hs
      split at hf
      · rename_i o sz ag hz
        injection hf with hf; subst hf
        exact ok_fld_ptr tabT hd hx hs hz
      · cases hf
    · cases hf
  · cases h
end
section
variable {E : Env} {nt : Nat} {ops : Array Oper} {T : Nat → Option AV} {H : Hp} {d : Option Nat} {ty : TypeId} {pos : String} {af : Array Edge} {gd : Option (Nat × Bool)}
theorem o_sub1 {t t' : TypeId} {x y : Operand} {a : Nat} (hd : dOk nt d = true) (hx : evalO T x = some (.v (.int .i64 ((a + 1 : Nat) : Int)))) (hy : evalO T y = some (.v (.int .i64 1))) (h : a ≤ 9223372036854775807) : OpOK Try.prog E nt ops ⟨d, .binOp .sub t x y t', ty, pos, af, gd⟩ T H [] ⟨.v (.int .i64 (a : Nat)), []⟩ := by
  have := o_sub (E := E) (ops := ops) (H := H) (ty := ty) (pos := pos) (af := af) (gd := gd) (t := t) (t' := t') hd hx hy (by omega)
  rwa [show ((a + 1 : Nat) : Int) - 1 = (a : Nat) from by omega] at this
end
section
variable {E : Env} {nt : Nat} {ops : Array Oper} {T : Nat → Option AV} {H : Hp} {d : Option Nat} {ty : TypeId} {pos : String} {af : Array Edge} {gd : Option (Nat × Bool)}
/-- an element of a row told one by one -/
theorem o_idxr {x ix : Operand} {t e : TypeId} {es bytes : Nat} {ea : Bool} {tok : Option Nat} {xs : List AV} {k : IntKind} {n : Int} {i : Nat} {y : AV} (hd : dOk nt d = true) (hs : tabT.ti t = some (.sl e es bytes ea)) (hx : evalO T x = some (.sl tok es xs)) (hi : evalO T ix = some (.v (.int k n))) (hn : natOf n = some i) (hy : xs[i]? = some y) :
    OpOK Try.prog E nt ops ⟨d, .indexAddr t x ix, ty, pos, af, gd⟩ T H [] ⟨.ref y, []⟩ := by
  have := natOf_eq hn; subst this
  exact ok_idx_sl tabT hd hs hx hi (Int.natCast_nonneg i) (by simpa using hy)
end
/-- a contract with what a call of it wants -/
def ACall (f : FuncId) (args : List AV) (r : AV) : Prop := ∃ fn, Try.prog.funcs[f]? = some fn ∧ fn.body.isSome = true ∧ (fn.name == "runtime.NumGoroutine") = false ∧ AFn Try.prog f args r
theorem acall {f : FuncId} {fn : Func} {args : List AV} {r : AV} (hf : Try.prog.funcs[f]? = some fn) (hc : AFn Try.prog f args r) (hb : fn.body.isSome = true) (hn : (fn.name == "runtime.NumGoroutine") = false) : ACall f args r := ⟨fn, hf, hb, hn, hc⟩
section
variable {E : Env} {nt : Nat} {ops : Array Oper} {T : Nat → Option AV} {H : Hp} {d : Option Nat} {ty : TypeId} {pos : String} {af : Array Edge} {gd : Option (Nat × Bool)}
theorem o_acall {f : FuncId} {l : List Operand} {ats : Array TypeId} {xs ys : List AV} {y : AV} (hd : dOk nt d = true) (hx : argsA T l = some xs) (hw : weakA xs = some ys) (hnt : xs.all notTup = true) (hc : ACall f ys y) : OpOK Try.prog E nt ops ⟨d, .call { callee := .value (.func f), args := l.toArray, argTypes := ats }, ty, pos, af, gd⟩ T H [] ⟨y, []⟩ := by
  obtain ⟨fn, h1, h2, h3, h4⟩ := hc
  exact o_call h1 h4 h2 h3 hd hx (fun _ => weakA_wkl _ _ hw) hnt
end
section
variable {P : Program} {E : Env} {nt : Nat} {ops : Array Oper} {l : List Oper} {T : List (Nat × AV)} {H : List (Nat × Bx)} {rs : List Rec} {K : St → List Rec → Prop} {op : Op} {ty : TypeId} {pos : String} {af : Array Edge} {d : Option Nat}
theorem want_t {T : Nat → Option AV} {j : Nat} {b : Bool} {xs : List AV} (h : ((ops[j]?).bind (·.dst)).bind T = some (.tup xs)) : wantedA ops ⟨d, op, ty, pos, af, some (j, b)⟩ T = some false := by
  unfold wantedA; simp [h]
/-- a guard's slot, where a fact at hand tells it -/
theorem Wgt {j s : Nat} {b : Bool} {p : Prop} [Decidable p] (hj : ((ops[j]?).bind (·.dst)) = some s) (hs : look s T = some (.v (.bool (decide p)))) (hp : p) (h : AWops P E nt ops (⟨d, op, ty, pos, af, some (j, b)⟩ :: l) ⟨(s, .v (.bool true)) :: T, H⟩ rs K) : AWops P E nt ops (⟨d, op, ty, pos, af, some (j, b)⟩ :: l) ⟨T, H⟩ rs K := Wtest s true hs (decide_eq_true hp) h
theorem Wgf {j s : Nat} {b : Bool} {p : Prop} [Decidable p] (hj : ((ops[j]?).bind (·.dst)) = some s) (hs : look s T = some (.v (.bool (decide p)))) (hp : ¬ p) (h : AWops P E nt ops (⟨d, op, ty, pos, af, some (j, b)⟩ :: l) ⟨(s, .v (.bool false)) :: T, H⟩ rs K) : AWops P E nt ops (⟨d, op, ty, pos, af, some (j, b)⟩ :: l) ⟨T, H⟩ rs K := Wtest s false hs (decide_eq_false hp) h
theorem Wgb {j s : Nat} {b c e : Bool} (hj : ((ops[j]?).bind (·.dst)) = some s) (hs : look s T = some (.v (.bool c))) (hp : c = e) (h : AWops P E nt ops (⟨d, op, ty, pos, af, some (j, b)⟩ :: l) ⟨(s, .v (.bool e)) :: T, H⟩ rs K) : AWops P E nt ops (⟨d, op, ty, pos, af, some (j, b)⟩ :: l) ⟨T, H⟩ rs K := Wtest s e hs hp h
end
end Go.Proofs.Ytofcabhahdecdaa

namespace Go.Proofs.Ytofcabhahdecdaa
open Go Go.RowKit
set_option linter.unusedVariables false
set_option linter.unusedSimpArgs false
set_option maxRecDepth 100000

/-- what is still to be shown, kept out of sight of the steps -/
structure Hid (R : Prop) : Prop where
  out : R
theorem wO {Q R : Prop} (k : R) (h : Hid R → Q := by intro kHid; (repeat (first | (first | refine Wend _ ?_ | refine AW_seq ?_ | refine AW_reg ?_ | refine AW_drw mixed ?_ | refine AW_block ?_ | refine AW_scope ?_ | refine thenA_n ?_ | refine blockA_n ?_ | refine blockA_h ?_ | refine scopeA_n ?_ | refine thenA_r ?_ | refine blockA_r ?_ | refine scopeA_r ?_ | refine thenA_e ?_ | refine scopeA_e ?_ | refine blockA_e rfl ?_ | refine AW_exit ?_ | refine AW_ret ?_ | refine AW_skip ?_ | refine AW_c rfl ?_ | with_reducible refine cb_t ?_ | with_reducible refine cb_f ?_ | with_reducible refine cb_yes (by first | assumption | omega) ?_ | with_reducible refine cb_no (by first | assumption | omega) ?_ | refine And.intro (by decide +kernel) ?_) | (first | (apply Wv; (focus (first | exact step_ok rfl rfl | exact o_idx rfl rfl rfl rfl (by first | assumption | omega | decide) | exact o_idx3 rfl rfl rfl rfl (by first | assumption | omega | decide) | exact o_idx2 rfl rfl rfl rfl rfl (by first | assumption | omega | decide) | exact o_idxr rfl rfl rfl rfl rfl rfl | exact o_lenm rfl rfl rfl | exact o_len rfl rfl rfl | exact o_len0 rfl rfl rfl | exact o_lens rfl rfl rfl | exact o_lent rfl rfl | exact o_add1 rfl rfl rfl (by omega) | exact o_addn rfl rfl rfl (by omega) | exact o_add rfl rfl rfl (by omega) | exact o_sub1 rfl rfl rfl (by omega) | exact o_sub rfl rfl rfl (by omega) | exact o_mul rfl rfl rfl (by omega) | exact o_rem rfl rfl rfl (by omega) | exact ok_rem rfl rfl rfl (by decide) rfl | exact o_eqKey rfl rfl rfl | exact o_neKey rfl rfl rfl | exact o_acall rfl rfl rfl rfl (by assumption) | exact o_minn rfl rfl rfl | exact o_cutl rfl rfl rfl rfl (by omega) | exact o_cuth rfl rfl rfl rfl (by omega) | exact o_cutl3 rfl rfl rfl rfl (by omega) | exact o_cuth3 rfl rfl rfl rfl (by omega) | exact o_cutl2 rfl rfl rfl rfl rfl (by omega) | exact o_cuth2 rfl rfl rfl rfl rfl (by omega) | exact o_cutlh2 rfl rfl rfl rfl rfl rfl rfl (by omega) (by omega) | exact o_bld zero_Key rfl rfl rfl rfl rfl rfl rfl | exact o_bld zero_Node rfl rfl rfl rfl rfl rfl rfl)); (focus (first | exact want_n | exact want_g rfl (by with_reducible rfl)))) | (apply Wb; (focus (first | exact o_box rfl rfl rfl rfl | exact o_app rfl rfl rfl rfl rfl (by first | exact o_many rfl | exact o_one _ _ rfl) (by first | omega | (simp; omega) | simp) (by first | omega | (simp; omega) | simp) | exact o_appn rfl rfl rfl rfl rfl (by first | exact o_many rfl | exact o_one _ _ rfl) (by first | omega | (simp; omega) | simp) (by first | omega | (simp; omega) | simp) | exact o_app1 rfl rfl rfl rfl rfl (by first | exact o_many rfl | exact o_one _ _ rfl) (by exact rfl) (by first | omega | (simp; omega) | simp) (by first | omega | (simp; omega) | simp) | exact o_app0 rfl rfl rfl rfl rfl (by first | exact o_many rfl | exact o_one _ _ rfl) (by first | omega | (simp; omega) | simp) (by first | omega | (simp; omega) | simp) | exact o_bsl0 rfl rfl rfl | exact o_bsll zero_slints rfl rfl rfl rfl rfl rfl rfl rfl | exact o_bsll zero_slkeys rfl rfl rfl rfl rfl rfl rfl rfl | exact o_bsll zero_int rfl rfl rfl rfl rfl rfl rfl rfl | exact o_bsll zero_Key rfl rfl rfl rfl rfl rfl rfl rfl | exact o_alloc zero_Key rfl rfl | exact o_alloc zero_Node rfl rfl)); (focus (first | exact want_n | exact want_g rfl (by with_reducible rfl)))) | (apply Ws; (focus (exact ok_store tabT (d := none) rfl rfl rfl rfl rfl rfl rfl rfl rfl rfl)); (focus (first | exact want_n | exact want_g rfl (by with_reducible rfl)))) | (refine Wskip (by first | exact want_f rfl (by with_reducible exact b_nt) | exact want_f rfl (by with_reducible exact b_nf) | exact want_t rfl) rfl ?_) | refine Wgt rfl rfl (by first | assumption | omega | exact rfl) ?_ | refine Wgf rfl rfl (by first | assumption | omega | exact rfl) ?_ | (refine Wgb rfl rfl (by assumption) ?_) | (refine cb_is _ (by assumption) ?_)))); exact kHid.out) : Q := h ⟨k⟩
theorem wL {Q R : Prop} (k : R) (h : Hid R → Q := by intro kHid; (repeat (first | (first | refine Wend _ ?_ | refine AW_seq ?_ | refine AW_reg ?_ | refine AW_drw mixed ?_ | refine AW_block ?_ | refine AW_scope ?_ | refine thenA_n ?_ | refine blockA_n ?_ | refine blockA_h ?_ | refine scopeA_n ?_ | refine thenA_r ?_ | refine blockA_r ?_ | refine scopeA_r ?_ | refine thenA_e ?_ | refine scopeA_e ?_ | refine blockA_e rfl ?_ | refine AW_exit ?_ | refine AW_ret ?_ | refine AW_skip ?_ | refine AW_c rfl ?_ | with_reducible refine cb_t ?_ | with_reducible refine cb_f ?_ | with_reducible refine cb_yes (by first | assumption | omega) ?_ | with_reducible refine cb_no (by first | assumption | omega) ?_ | refine And.intro (by decide +kernel) ?_) | (first | (apply Wv; (focus (first | exact step_ok rfl rfl | exact o_idx rfl rfl rfl rfl (by first | assumption | omega | decide) | exact o_idx3 rfl rfl rfl rfl (by first | assumption | omega | decide) | exact o_idx2 rfl rfl rfl rfl rfl (by first | assumption | omega | decide) | exact o_idxr rfl rfl rfl rfl rfl rfl | exact o_lenm rfl rfl rfl | exact o_len rfl rfl rfl | exact o_len0 rfl rfl rfl | exact o_lens rfl rfl rfl | exact o_lent rfl rfl | exact o_add1 rfl rfl rfl (by omega) | exact o_addn rfl rfl rfl (by omega) | exact o_add rfl rfl rfl (by omega) | exact o_sub1 rfl rfl rfl (by omega) | exact o_sub rfl rfl rfl (by omega) | exact o_mul rfl rfl rfl (by omega) | exact o_rem rfl rfl rfl (by omega) | exact ok_rem rfl rfl rfl (by decide) rfl | exact o_eqKey rfl rfl rfl | exact o_neKey rfl rfl rfl | exact o_eqVl rfl rfl rfl | exact o_neVl rfl rfl rfl | exact o_eqEnt rfl rfl rfl | exact o_neEnt rfl rfl rfl | exact o_eqMsg rfl rfl rfl | exact o_neMsg rfl rfl rfl | exact o_acall rfl rfl rfl rfl (by assumption) | exact o_minn rfl rfl rfl | exact o_cutl rfl rfl rfl rfl (by omega) | exact o_cuth rfl rfl rfl rfl (by omega) | exact o_cutl3 rfl rfl rfl rfl (by omega) | exact o_cuth3 rfl rfl rfl rfl (by omega) | exact o_cutl2 rfl rfl rfl rfl rfl (by omega) | exact o_cuth2 rfl rfl rfl rfl rfl (by omega) | exact o_cutlh2 rfl rfl rfl rfl rfl rfl rfl (by omega) (by omega) | exact e_bld rfl rfl rfl | exact e_bldk rfl rfl | exact z_bld0 rfl rfl rfl rfl rfl | exact z_bld rfl rfl rfl rfl rfl rfl rfl | exact o_addu rfl rfl rfl | exact z_blda rfl rfl rfl rfl rfl rfl rfl rfl rfl | exact o_idxa rfl rfl rfl rfl rfl rfl | exact o_idxra rfl rfl rfl rfl rfl rfl rfl | exact o_quo2 rfl rfl rfl (by omega) | exact o_quo rfl rfl rfl (by omega))); (focus (first | exact want_n | exact want_g rfl (by with_reducible rfl)))) | (apply Wb; (focus (first | exact o_box rfl rfl rfl rfl | exact o_app rfl rfl rfl rfl rfl (by first | exact o_many rfl | exact o_one _ _ rfl) (by first | omega | (simp; omega) | simp) (by first | omega | (simp; omega) | simp) | exact o_appn rfl rfl rfl rfl rfl (by first | exact o_many rfl | exact o_one _ _ rfl) (by first | omega | (simp; omega) | simp) (by first | omega | (simp; omega) | simp) | exact o_app1 rfl rfl rfl rfl rfl (by first | exact o_many rfl | exact o_one _ _ rfl) (by exact rfl) (by first | omega | (simp; omega) | simp) (by first | omega | (simp; omega) | simp) | exact o_app0 rfl rfl rfl rfl rfl (by first | exact o_many rfl | exact o_one _ _ rfl) (by first | omega | (simp; omega) | simp) (by first | omega | (simp; omega) | simp) | exact o_bsl0 rfl rfl rfl | exact z_bsll rfl rfl rfl rfl rfl rfl rfl rfl rfl | exact z_alloc rfl rfl rfl)); (focus (first | exact want_n | exact want_g rfl (by with_reducible rfl)))) | (apply Ws; (focus (exact ok_store tabT (d := none) rfl rfl rfl rfl rfl rfl rfl rfl rfl rfl)); (focus (first | exact want_n | exact want_g rfl (by with_reducible rfl)))) | (refine Wskip (by first | exact want_f rfl (by with_reducible exact b_nt) | exact want_f rfl (by with_reducible exact b_nf) | exact want_t rfl) rfl ?_) | refine Wgt rfl rfl (by first | assumption | omega | exact rfl) ?_ | refine Wgf rfl rfl (by first | assumption | omega | exact rfl) ?_ | (refine Wgb rfl rfl (by with_reducible assumption) ?_) | (refine cb_is _ (by assumption) ?_)))); exact kHid.out) : Q := h ⟨k⟩
theorem wS {Q R : Prop} (k : R) (h : Hid R → Q := by intro kHid; (repeat (first | (first | refine Wend _ ?_ | refine AW_seq ?_ | refine AW_reg ?_ | refine AW_drw mixed ?_ | refine AW_block ?_ | refine AW_scope ?_ | refine thenA_n ?_ | refine blockA_n ?_ | refine blockA_h ?_ | refine scopeA_n ?_ | refine thenA_r ?_ | refine blockA_r ?_ | refine scopeA_r ?_ | refine thenA_e ?_ | refine scopeA_e ?_ | refine blockA_e rfl ?_ | refine AW_exit ?_ | refine AW_ret ?_ | refine AW_skip ?_ | refine AW_c rfl ?_ | with_reducible refine cb_t ?_ | with_reducible refine cb_f ?_ | with_reducible refine cb_yes (by first | assumption | omega) ?_ | with_reducible refine cb_no (by first | assumption | omega) ?_ | refine And.intro (by decide +kernel) ?_) | (first | (apply Wv; (focus (first | exact step_ok rfl rfl | exact o_idx rfl rfl rfl rfl (by first | assumption | omega | decide) | exact o_idx3 rfl rfl rfl rfl (by first | assumption | omega | decide) | exact o_idx2 rfl rfl rfl rfl rfl (by first | assumption | omega | decide) | exact o_idxr rfl rfl rfl rfl rfl rfl | exact o_lenm rfl rfl rfl | exact o_len rfl rfl rfl | exact o_len0 rfl rfl rfl | exact o_lens rfl rfl rfl | exact o_lent rfl rfl | exact o_add1 rfl rfl rfl (by omega) | exact o_addn rfl rfl rfl (by omega) | exact o_add rfl rfl rfl (by omega) | exact o_sub1 rfl rfl rfl (by omega) | exact o_sub rfl rfl rfl (by omega) | exact o_mul rfl rfl rfl (by omega) | exact o_rem rfl rfl rfl (by omega) | exact ok_rem rfl rfl rfl (by decide) rfl | exact o_eqKey rfl rfl rfl | exact o_neKey rfl rfl rfl | exact o_eqVl rfl rfl rfl | exact o_neVl rfl rfl rfl | exact o_eqEnt rfl rfl rfl | exact o_neEnt rfl rfl rfl | exact o_eqMsg rfl rfl rfl | exact o_neMsg rfl rfl rfl | exact o_acall rfl rfl rfl rfl (by assumption) | exact o_minn rfl rfl rfl | exact o_cutl rfl rfl rfl rfl (by omega) | exact o_cuth rfl rfl rfl rfl (by omega) | exact o_cutl3 rfl rfl rfl rfl (by omega) | exact o_cuth3 rfl rfl rfl rfl (by omega) | exact o_cutl2 rfl rfl rfl rfl rfl (by omega) | exact o_cuth2 rfl rfl rfl rfl rfl (by omega) | exact o_cutlh2 rfl rfl rfl rfl rfl rfl rfl (by omega) (by omega) | exact e_bld rfl rfl rfl | exact e_bldk rfl rfl | exact z_bld0 rfl rfl rfl rfl rfl | exact z_bld rfl rfl rfl rfl rfl rfl rfl | exact o_addu rfl rfl rfl | exact o_mulu rfl rfl rfl (by decide) | exact o_convb ⟨_, Try.underlying3⟩ Try.underlying5 rfl rfl | exact o_convu ⟨_, Try.underlying3⟩ Try.underlying35 rfl rfl | exact o_convs Try.underlying77 Try.underlying5 Try.underlying9 rfl rfl | exact o_idxs rfl rfl rfl rfl (by first | assumption | omega) | exact z_blda rfl rfl rfl rfl rfl rfl rfl rfl rfl | exact o_idxa rfl rfl rfl rfl rfl rfl | exact o_idxra rfl rfl rfl rfl rfl rfl rfl | exact o_quo2 rfl rfl rfl (by omega) | exact o_quo rfl rfl rfl (by omega))); (focus (first | exact want_n | exact want_g rfl (by with_reducible rfl)))) | (apply Wb; (focus (first | exact o_box rfl rfl rfl rfl | exact o_app rfl rfl rfl rfl rfl (by first | exact o_many rfl | exact o_one _ _ rfl) (by first | omega | (simp; omega) | simp) (by first | omega | (simp; omega) | simp) | exact o_appn rfl rfl rfl rfl rfl (by first | exact o_many rfl | exact o_one _ _ rfl) (by first | omega | (simp; omega) | simp) (by first | omega | (simp; omega) | simp) | exact o_app1 rfl rfl rfl rfl rfl (by first | exact o_many rfl | exact o_one _ _ rfl) (by exact rfl) (by first | omega | (simp; omega) | simp) (by first | omega | (simp; omega) | simp) | exact o_app0 rfl rfl rfl rfl rfl (by first | exact o_many rfl | exact o_one _ _ rfl) (by first | omega | (simp; omega) | simp) (by first | omega | (simp; omega) | simp) | exact o_bsl0 rfl rfl rfl | exact z_bsll rfl rfl rfl rfl rfl rfl rfl rfl rfl | exact z_alloc rfl rfl rfl)); (focus (first | exact want_n | exact want_g rfl (by with_reducible rfl)))) | (apply Ws; (focus (exact ok_store tabT (d := none) rfl rfl rfl rfl rfl rfl rfl rfl rfl rfl)); (focus (first | exact want_n | exact want_g rfl (by with_reducible rfl)))) | (refine Wskip (by first | exact want_f rfl (by with_reducible exact b_nt) | exact want_f rfl (by with_reducible exact b_nf) | exact want_t rfl) rfl ?_) | refine Wgt rfl rfl (by first | assumption | omega | exact rfl) ?_ | refine Wgf rfl rfl (by first | assumption | omega | exact rfl) ?_ | (refine Wgb rfl rfl (by with_reducible assumption) ?_) | (refine cb_is _ (by assumption) ?_)))); exact kHid.out) : Q := h ⟨k⟩
theorem wI {Q R : Prop} (k : R) (h : Hid R → Q := by intro kHid; (repeat (first | (first | refine Wend _ ?_ | refine AW_seq ?_ | refine AW_reg ?_ | refine AW_drw mixed ?_ | refine AW_block ?_ | refine AW_scope ?_ | refine thenA_n ?_ | refine blockA_n ?_ | refine blockA_h ?_ | refine scopeA_n ?_ | refine thenA_r ?_ | refine blockA_r ?_ | refine scopeA_r ?_ | refine thenA_e ?_ | refine scopeA_e ?_ | refine blockA_e rfl ?_ | refine AW_exit ?_ | refine AW_ret ?_ | refine AW_skip ?_ | refine AW_c rfl ?_ | with_reducible refine cb_t ?_ | with_reducible refine cb_f ?_ | with_reducible refine cb_yes (by first | assumption | omega) ?_ | with_reducible refine cb_no (by first | assumption | omega) ?_ | refine And.intro (by decide +kernel) ?_) | (first | (apply Wv; (focus (first | exact step_ok rfl rfl | exact o_idx rfl rfl rfl rfl (by first | assumption | omega | decide) | exact o_idx3 rfl rfl rfl rfl (by first | assumption | omega | decide) | exact o_idx2 rfl rfl rfl rfl rfl (by first | assumption | omega | decide) | exact o_idxr rfl rfl rfl rfl rfl rfl | exact o_lenm rfl rfl rfl | exact o_len rfl rfl rfl | exact o_len0 rfl rfl rfl | exact o_lens rfl rfl rfl | exact o_lent rfl rfl | exact o_add1 rfl rfl rfl (by omega) | exact o_addn rfl rfl rfl (by omega) | exact o_add rfl rfl rfl (by omega) | exact o_sub1 rfl rfl rfl (by omega) | exact o_sub rfl rfl rfl (by omega) | exact o_mul rfl rfl rfl (by omega) | exact o_rem rfl rfl rfl (by omega) | exact ok_rem rfl rfl rfl (by decide) rfl | exact o_eqKey rfl rfl rfl | exact o_neKey rfl rfl rfl | exact o_eqVl rfl rfl rfl | exact o_neVl rfl rfl rfl | exact o_eqEnt rfl rfl rfl | exact o_neEnt rfl rfl rfl | exact o_eqMsg rfl rfl rfl | exact o_neMsg rfl rfl rfl | exact o_acall rfl rfl rfl rfl (by assumption) | exact o_minn rfl rfl rfl | exact o_cutl rfl rfl rfl rfl (by omega) | exact o_cuth rfl rfl rfl rfl (by omega) | exact o_cutl3 rfl rfl rfl rfl (by omega) | exact o_cuth3 rfl rfl rfl rfl (by omega) | exact o_cutl2 rfl rfl rfl rfl rfl (by omega) | exact o_cuth2 rfl rfl rfl rfl rfl (by omega) | exact o_cutlh2 rfl rfl rfl rfl rfl rfl rfl (by omega) (by omega) | exact e_bld rfl rfl rfl | exact e_bldk rfl rfl | exact z_bld0 rfl rfl rfl rfl rfl | exact z_bld rfl rfl rfl rfl rfl rfl rfl | exact o_addu rfl rfl rfl | exact o_mulu rfl rfl rfl (by decide) | exact o_convb ⟨_, Try.underlying3⟩ Try.underlying5 rfl rfl | exact o_convu ⟨_, Try.underlying3⟩ Try.underlying35 rfl rfl | exact o_convs Try.underlying77 Try.underlying5 Try.underlying9 rfl rfl | exact o_idxs rfl rfl rfl rfl (by first | assumption | omega) | exact o_mkifc rfl rfl rfl (by decide +kernel) | exact o_asy rfl rfl rfl (by decide +kernel) | exact o_asn rfl rfl rfl rfl (by decide +kernel) (by decide +kernel) | exact o_minv rfl rfl rfl rfl rfl rfl (by assumption) | exact z_blda rfl rfl rfl rfl rfl rfl rfl rfl rfl | exact o_idxa rfl rfl rfl rfl rfl rfl | exact o_idxra rfl rfl rfl rfl rfl rfl rfl | exact o_quo2 rfl rfl rfl (by omega) | exact o_quo rfl rfl rfl (by omega))); (focus (first | exact want_n | exact want_g rfl (by with_reducible rfl)))) | (apply Wb; (focus (first | exact o_box rfl rfl rfl rfl | exact o_app rfl rfl rfl rfl rfl (by first | exact o_many rfl | exact o_one _ _ rfl) (by first | omega | (simp; omega) | simp) (by first | omega | (simp; omega) | simp) | exact o_appn rfl rfl rfl rfl rfl (by first | exact o_many rfl | exact o_one _ _ rfl) (by first | omega | (simp; omega) | simp) (by first | omega | (simp; omega) | simp) | exact o_app1 rfl rfl rfl rfl rfl (by first | exact o_many rfl | exact o_one _ _ rfl) (by exact rfl) (by first | omega | (simp; omega) | simp) (by first | omega | (simp; omega) | simp) | exact o_app0 rfl rfl rfl rfl rfl (by first | exact o_many rfl | exact o_one _ _ rfl) (by first | omega | (simp; omega) | simp) (by first | omega | (simp; omega) | simp) | exact o_bsl0 rfl rfl rfl | exact z_bsll rfl rfl rfl rfl rfl rfl rfl rfl rfl | exact z_alloc rfl rfl rfl)); (focus (first | exact want_n | exact want_g rfl (by with_reducible rfl)))) | (apply Ws; (focus (exact ok_store tabT (d := none) rfl rfl rfl rfl rfl rfl rfl rfl rfl rfl)); (focus (first | exact want_n | exact want_g rfl (by with_reducible rfl)))) | (refine Wskip (by first | exact want_f rfl (by with_reducible exact b_nt) | exact want_f rfl (by with_reducible exact b_nf) | exact want_t rfl) rfl ?_) | refine Wgt rfl rfl (by first | assumption | omega | exact rfl) ?_ | refine Wgf rfl rfl (by first | assumption | omega | exact rfl) ?_ | (refine Wgb rfl rfl (by with_reducible assumption) ?_) | (refine cb_is _ (by assumption) ?_)))); exact kHid.out) : Q := h ⟨k⟩
theorem wF {Q R : Prop} (k : R) (h : Hid R → Q := by intro kHid; (repeat (first | (first | refine Wend _ ?_ | refine AW_seq ?_ | refine AW_reg ?_ | refine AW_drw mixed ?_ | refine AW_block ?_ | refine AW_scope ?_ | refine thenA_n ?_ | refine blockA_n ?_ | refine blockA_h ?_ | refine scopeA_n ?_ | refine thenA_r ?_ | refine blockA_r ?_ | refine scopeA_r ?_ | refine thenA_e ?_ | refine scopeA_e ?_ | refine blockA_e rfl ?_ | refine AW_exit ?_ | refine AW_ret ?_ | refine AW_skip ?_ | refine AW_c rfl ?_ | with_reducible refine cb_t ?_ | with_reducible refine cb_f ?_ | with_reducible refine cb_yes (by first | assumption | omega) ?_ | with_reducible refine cb_no (by first | assumption | omega) ?_ | refine And.intro (by decide +kernel) ?_) | (first | (apply Wv; (focus (first | exact step_ok rfl rfl | exact o_idx rfl rfl rfl rfl (by first | assumption | omega | decide) | exact o_idx3 rfl rfl rfl rfl (by first | assumption | omega | decide) | exact o_idx2 rfl rfl rfl rfl rfl (by first | assumption | omega | decide) | exact o_idxr rfl rfl rfl rfl rfl rfl | exact o_lenm rfl rfl rfl | exact o_len rfl rfl rfl | exact o_len0 rfl rfl rfl | exact o_lens rfl rfl rfl | exact o_lent rfl rfl | exact o_add1 rfl rfl rfl (by omega) | exact o_addn rfl rfl rfl (by omega) | exact o_add rfl rfl rfl (by omega) | exact o_sub1 rfl rfl rfl (by omega) | exact o_sub rfl rfl rfl (by omega) | exact o_mul rfl rfl rfl (by omega) | exact o_rem rfl rfl rfl (by omega) | exact ok_rem rfl rfl rfl (by decide) rfl | exact o_eqKey rfl rfl rfl | exact o_neKey rfl rfl rfl | exact o_eqVl rfl rfl rfl | exact o_neVl rfl rfl rfl | exact o_eqEnt rfl rfl rfl | exact o_neEnt rfl rfl rfl | exact o_eqMsg rfl rfl rfl | exact o_neMsg rfl rfl rfl | exact o_acall rfl rfl rfl rfl (by assumption) | exact o_minn rfl rfl rfl | exact o_cutl rfl rfl rfl rfl (by omega) | exact o_cuth rfl rfl rfl rfl (by omega) | exact o_cutl3 rfl rfl rfl rfl (by omega) | exact o_cuth3 rfl rfl rfl rfl (by omega) | exact o_cutl2 rfl rfl rfl rfl rfl (by omega) | exact o_cuth2 rfl rfl rfl rfl rfl (by omega) | exact o_cutlh2 rfl rfl rfl rfl rfl rfl rfl (by omega) (by omega) | exact e_bld rfl rfl rfl | exact e_bldk rfl rfl | exact z_bld0 rfl rfl rfl rfl rfl | exact z_bld rfl rfl rfl rfl rfl rfl rfl | exact o_addu rfl rfl rfl | exact o_mkfn rfl rfl rfl | exact o_callv rfl rfl rfl rfl rfl rfl (by assumption) | exact o_shr1 rfl rfl rfl | exact o_cviu ⟨_, Try.underlying3⟩ Try.underlying96 rfl rfl (by omega) | exact o_cvui ⟨_, Try.underlying96⟩ Try.underlying3 rfl rfl (by omega) | exact z_blda rfl rfl rfl rfl rfl rfl rfl rfl rfl | exact o_idxa rfl rfl rfl rfl rfl rfl | exact o_idxra rfl rfl rfl rfl rfl rfl rfl | exact o_quo2 rfl rfl rfl (by omega) | exact o_quo rfl rfl rfl (by omega))); (focus (first | exact want_n | exact want_g rfl (by with_reducible rfl)))) | (apply Wb; (focus (first | exact o_box rfl rfl rfl rfl | exact o_app rfl rfl rfl rfl rfl (by first | exact o_many rfl | exact o_one _ _ rfl) (by first | omega | (simp; omega) | simp) (by first | omega | (simp; omega) | simp) | exact o_appn rfl rfl rfl rfl rfl (by first | exact o_many rfl | exact o_one _ _ rfl) (by first | omega | (simp; omega) | simp) (by first | omega | (simp; omega) | simp) | exact o_app1 rfl rfl rfl rfl rfl (by first | exact o_many rfl | exact o_one _ _ rfl) (by exact rfl) (by first | omega | (simp; omega) | simp) (by first | omega | (simp; omega) | simp) | exact o_app0 rfl rfl rfl rfl rfl (by first | exact o_many rfl | exact o_one _ _ rfl) (by first | omega | (simp; omega) | simp) (by first | omega | (simp; omega) | simp) | exact o_bsl0 rfl rfl rfl | exact z_bsll rfl rfl rfl rfl rfl rfl rfl rfl rfl | exact z_alloc rfl rfl rfl)); (focus (first | exact want_n | exact want_g rfl (by with_reducible rfl)))) | (apply Ws; (focus (exact ok_store tabT (d := none) rfl rfl rfl rfl rfl rfl rfl rfl rfl rfl)); (focus (first | exact want_n | exact want_g rfl (by with_reducible rfl)))) | (refine Wskip (by first | exact want_f rfl (by with_reducible exact b_nt) | exact want_f rfl (by with_reducible exact b_nf) | exact want_t rfl) rfl ?_) | refine Wgt rfl rfl (by first | assumption | omega | exact rfl) ?_ | refine Wgf rfl rfl (by first | assumption | omega | exact rfl) ?_ | (refine Wgb rfl rfl (by with_reducible assumption) ?_) | (refine cb_is _ (by assumption) ?_)))); exact kHid.out) : Q := h ⟨k⟩
theorem wB {Q R : Prop} (k : R) (h : Hid R → Q := by intro kHid; (repeat (first | (first | refine Wend _ ?_ | refine AW_seq ?_ | refine AW_reg ?_ | refine AW_drw mixed ?_ | refine AW_block ?_ | refine AW_scope ?_ | refine thenA_n ?_ | refine blockA_n ?_ | refine blockA_h ?_ | refine scopeA_n ?_ | refine thenA_r ?_ | refine blockA_r ?_ | refine scopeA_r ?_ | refine thenA_e ?_ | refine scopeA_e ?_ | refine blockA_e rfl ?_ | refine AW_exit ?_ | refine AW_ret ?_ | refine AW_skip ?_ | refine AW_c rfl ?_ | with_reducible refine cb_t ?_ | with_reducible refine cb_f ?_ | with_reducible refine cb_yes (by first | assumption | omega) ?_ | with_reducible refine cb_no (by first | assumption | omega) ?_ | refine And.intro (by decide +kernel) ?_) | (first | (apply Wv; (focus (first | exact step_ok rfl rfl | exact o_idx rfl rfl rfl rfl (by first | assumption | omega | decide) | exact o_idx3 rfl rfl rfl rfl (by first | assumption | omega | decide) | exact o_idxr rfl rfl rfl rfl rfl rfl | exact o_lenm rfl rfl rfl | exact o_len rfl rfl rfl | exact o_len0 rfl rfl rfl | exact o_add1 rfl rfl rfl (by omega) | exact o_add rfl rfl rfl (by omega) | exact o_sub1 rfl rfl rfl (by omega) | exact o_sub rfl rfl rfl (by omega) | exact o_acall rfl rfl rfl rfl (by assumption) | exact e_bld rfl rfl rfl)); (focus (first | exact want_n | exact want_g rfl (by with_reducible rfl)))) | (apply Wb; (focus (first | exact o_box rfl rfl rfl rfl | exact o_app rfl rfl rfl rfl rfl (by first | exact o_many rfl | exact o_one _ _ rfl) (by first | omega | (simp; omega) | simp) (by first | omega | (simp; omega) | simp) | exact o_appn rfl rfl rfl rfl rfl (by first | exact o_many rfl | exact o_one _ _ rfl) (by first | omega | (simp; omega) | simp) (by first | omega | (simp; omega) | simp) | exact o_app1 rfl rfl rfl rfl rfl (by first | exact o_many rfl | exact o_one _ _ rfl) (by exact rfl) (by first | omega | (simp; omega) | simp) (by first | omega | (simp; omega) | simp) | exact o_app0 rfl rfl rfl rfl rfl (by first | exact o_many rfl | exact o_one _ _ rfl) (by first | omega | (simp; omega) | simp) (by first | omega | (simp; omega) | simp) | exact o_bsl0 rfl rfl rfl | exact z_bsll rfl rfl rfl rfl rfl rfl rfl rfl rfl | exact z_alloc rfl rfl rfl)); (focus (first | exact want_n | exact want_g rfl (by with_reducible rfl)))) | (apply Ws; (focus (exact ok_store tabT (d := none) rfl rfl rfl rfl rfl rfl rfl rfl rfl rfl)); (focus (first | exact want_n | exact want_g rfl (by with_reducible rfl)))) | (refine Wskip (by first | exact want_f rfl (by with_reducible exact b_nt) | exact want_f rfl (by with_reducible exact b_nf) | exact want_t rfl) rfl ?_) | refine Wgt rfl rfl (by first | assumption | omega | exact rfl) ?_ | refine Wgf rfl rfl (by first | assumption | omega | exact rfl) ?_ | (refine Wgb rfl rfl (by with_reducible assumption) ?_) | (refine cb_is _ (by assumption) ?_)))); exact kHid.out) : Q := h ⟨k⟩
theorem wC {Q R : Prop} (k : R) (h : Hid R → Q := by intro kHid; (repeat (first | (first | refine Wend _ ?_ | refine AW_seq ?_ | refine AW_reg ?_ | refine AW_drw mixed ?_ | refine AW_block ?_ | refine AW_scope ?_ | refine thenA_n ?_ | refine blockA_n ?_ | refine blockA_h ?_ | refine scopeA_n ?_ | refine thenA_r ?_ | refine blockA_r ?_ | refine scopeA_r ?_ | refine thenA_e ?_ | refine scopeA_e ?_ | refine blockA_e rfl ?_ | refine AW_exit ?_ | refine AW_ret ?_ | refine AW_skip ?_ | refine AW_c rfl ?_ | with_reducible refine cb_t ?_ | with_reducible refine cb_f ?_ | with_reducible refine cb_yes (by first | assumption | omega) ?_ | with_reducible refine cb_no (by first | assumption | omega) ?_ | refine And.intro (by decide +kernel) ?_) | (first | (apply Wv; (focus (first | exact step_ok rfl rfl | exact o_add1 rfl rfl rfl (by omega) | exact o_add rfl rfl rfl (by omega) | exact o_sub1 rfl rfl rfl (by omega) | exact o_sub rfl rfl rfl (by omega) | exact o_eqKey rfl rfl rfl | exact o_neKey rfl rfl rfl | exact o_eqVl rfl rfl rfl | exact o_neVl rfl rfl rfl | exact o_acall rfl rfl rfl rfl (by assumption) | exact z_bld0 rfl rfl rfl rfl rfl | exact z_bld rfl rfl rfl rfl rfl rfl rfl | exact o_addu rfl rfl rfl)); (focus (first | exact want_n | exact want_g rfl (by with_reducible rfl)))) | (apply Wb; (focus (first | exact o_box rfl rfl rfl rfl | exact z_alloc rfl rfl rfl)); (focus (first | exact want_n | exact want_g rfl (by with_reducible rfl)))) | (apply Ws; (focus (exact ok_store tabT (d := none) rfl rfl rfl rfl rfl rfl rfl rfl rfl rfl)); (focus (first | exact want_n | exact want_g rfl (by with_reducible rfl)))) | (refine Wskip (by first | exact want_f rfl (by with_reducible exact b_nt) | exact want_f rfl (by with_reducible exact b_nf) | exact want_t rfl) rfl ?_) | refine Wgt rfl rfl (by first | assumption | omega | exact rfl) ?_ | refine Wgf rfl rfl (by first | assumption | omega | exact rfl) ?_ | (refine Wgb rfl rfl (by with_reducible assumption) ?_) | (refine cb_is _ (by assumption) ?_)))); exact kHid.out) : Q := h ⟨k⟩
end Go.Proofs.Ytofcabhahdecdaa

namespace Go.Proofs.Ytofcabhahdecdaa
open Go Go.RowKit
set_option linter.unusedVariables false
set_option linter.unusedSimpArgs false
set_option maxRecDepth 100000

def nodeA (leaf : Bool) (es ks ps ms : AV) : AV := .agg 5 [boolA leaf, es, ks, ps, ms]
def nilA : AV := .v (.slice none 0 0)
section
variable {E : Env} {nt : Nat} {ops : Array Oper} {T : Nat → Option AV} {H : Hp} {d : Option Nat} {ty : TypeId} {pos : String} {af : Array Edge} {gd : Option (Nat × Bool)}
theorem o_app1 {α : Type} {f : α → AV} {s x : Operand} {t tx e : TypeId} {es bytes : Nat} {ea : Bool} {tk : Nat} {x0 : α} {y0 : AV} {zs : List α} {src : AV} (hd : dOk nt d = true) (hs : tabT.ti t = some (.sl e es bytes ea))
    (hy : evalO T x = some src) (hx : evalO T s = some (.sl (some tk) es [y0])) (hg : H tk = some (.tail e es 1)) (hsrc : SrcOf Try.prog tx es src (zs.map f)) (h0 : y0 = f x0) (hlen : (1 + zs.length) * bytes ≤ 140737488355328) (hlen2 : 1 + zs.length ≤ 9223372036854775807) :
    OpOK Try.prog E nt ops ⟨d, .call { callee := .builtin .append, args := #[s, x], argTypes := #[t, tx] }, ty, pos, af, gd⟩ T H [tk] ⟨.sl (some tk) es ((x0 :: zs).map f), [(tk, .tail e es (x0 :: zs).length)]⟩ :=
  o_app (f := f) (xs := [x0]) (zs := zs) hd hs (by rw [hx, h0]; rfl) hg hy hsrc (by simpa using hlen) (by simpa using hlen2)
end
theorem res_varw {S : St} {a t g n : Nat} {fs ys : List AV} (ha : S.t a = some (.ptr g 0 [])) (hg : S.h g = some (.var (.agg n fs))) (hs : tabT.sa t = some (true, n)) (hw : weakA fs = some ys) : Res1 Try.prog S (.cell a t) (.agg n ys) := ⟨g, .agg n fs, ha, hg, tabT.tyOf hs, Wk.agg (weakA_wkl _ _ hw)⟩
end Go.Proofs.Ytofcabhahdecdaa

namespace Go.Proofs.Ytofcabhahdecdaa
open Go Go.RowKit
set_option linter.unusedVariables false
set_option linter.unusedSimpArgs false
set_option maxRecDepth 100000

theorem sumS_u {n : Nat} : ∀ (zs : List AV) (i : Nat), (∀ z ∈ zs, sizeA z = n) → i ≤ zs.length → sumS (zs.take i) = i * n
  | zs, 0, h, hi => by simp [sumS]
  | [], i + 1, h, hi => by simp at hi
  | z :: zs, i + 1, h, hi => by
    simp only [List.take_succ_cons, sumS]
    rw [sumS_u zs i (fun z hz => h z (List.mem_cons_of_mem _ hz)) (by simpa using hi), h z (by simp), Nat.succ_mul]
    omega
section
variable {P : Program} {E : Env} {nt : Nat} {ops : Array Oper} {T : Nat → Option AV} {H : Hp} {d : Option Nat} {ty : TypeId} {pos : String} {af : Array Edge} {gd : Option (Nat × Bool)} (tb : Tab P)
theorem ok_bldarr {t e : TypeId} {tn len es : Nat} {ea : Bool} {l : List (Nat × Operand)} {vs : List (Nat × AV)} {zs out ys : List AV} (hd : dOk nt d = true) (hs : tb.ti t = some (.arr tn len es ea e)) (hz : ZeroOk P t (.arr tn es zs)) (hv : partsA T l = some vs) (ho : fillA vs zs = some out) (hw : ∀ H', WkL H' out ys)
    (hzs : zs.all (fun x => Nat.beq (sizeA x) es) = true) (hos : out.all (fun x => Nat.beq (sizeA x) es) = true) (hlen : out.length = zs.length) :
    OpOK P E nt ops ⟨d, .build t l.toArray, ty, pos, af, gd⟩ T H [] ⟨.arr tn es ys, []⟩ :=
  ok_val hd fun B T' H' a w r ht hh => by
    obtain ⟨⟨_, hu0, _, _⟩, hu, hte⟩ := tb.ok t _ hs
    obtain ⟨i, zv, z1, z2, z3⟩ := hz
    have hzr := z3 (unst E B H') w
    simp only [Rd] at hzr
    have hzl : ∀ z ∈ zs, sizeA z = es := fun x hx => Nat.eq_of_beq_eq_true (List.all_eq_true.1 hzs x hx)
    have hol : ∀ z ∈ out, sizeA z = es := fun x hx => Nat.eq_of_beq_eq_true (List.all_eq_true.1 hos x hx)
    have hm := Rdu_rds (Rdu_go (Evo.refl _ w) (fun _ _ _ h => h) _ _ ⟨fun g b h _ => by simp [H0, isVar] at h, fun g h => by simp [H0, isVar] at h, fun t n len A cap h => by obtain ⟨e, k, h, _⟩ := h; simp [H0] at h, fun g n len k v h => by obtain ⟨e, xs, h, _⟩ := h; simp [H0] at h⟩ hzr.2 : Rdu (unst E B H') w es zs B H' _)
    have hv' := parts_agree hv (T' := T') (fun p hp => ht p.2 (by simp [Op.operands]; exact ⟨p.1, hp⟩))
    obtain ⟨cells', q1, q2⟩ := fill_rds r l vs zs out _ hv' ho (place := fun i => some (i * es, es)) (fun i y h => by
      have hlt := (List.getElem?_eq_some_iff.1 h).1
      rw [sumS_u zs i hzl (by omega), hzl y (List.mem_of_getElem? h)]) hm
    have hrdu := (hw H').rdu (Rds_rdu q2 hol)
    have hcl : cells'.length = tn := by
      have e1 := Rdu_len (Rds_rdu q2 hol)
      have e2 := Rdu_len hzr.2
      rw [e1, hlen, ← e2, hzr.1]
    obtain ⟨de, hie⟩ : ∃ ie, P.info? e = some ie ∧ ie.size = es := by
      obtain ⟨_, _, _, h⟩ := hte
      cases hi : P.info? e with
      | none => rw [hi] at h; cases h
      | some ie => rw [hi] at h; simp at h; exact ⟨ie, rfl, h⟩
    have hb : P.built t (l.map fun p => (p.1, a.eval p.2)) = some cells'.toArray := by
      unfold Program.built
      simp only [z1, hu, z2, hie.1, hie.2]
      have := fill_of_fillS _ _ _ q1
      simpa using this
    refine ⟨.agg cells'.toArray, ?_, ?_⟩
    · have hrb := run_build (P := P) w t (l.map fun p => (p.1, a.eval p.2)).toArray cells'.toArray (by simpa using hb)
      simp only [execOp]
      have hm : (Array.map (fun x => (x.1, a.eval x.2)) l.toArray) = (l.map fun p => (p.1, a.eval p.2)).toArray := by simp
      simp only [hm, Sem.run_bind, hrb]
      rfl
    · rw [Rdv_not (by simp)]
      exact ⟨cells', by simp only [Rd]; exact ⟨hcl, hrdu⟩, rfl⟩
end
section
variable {E : Env} {nt : Nat} {ops : Array Oper} {T : Nat → Option AV} {H : Hp} {d : Option Nat} {ty : TypeId} {pos : String} {af : Array Edge} {gd : Option (Nat × Bool)}
set_option maxRecDepth 100000 in
theorem o_blda {t e : TypeId} {tn len es : Nat} {ea : Bool} {l : List (Nat × Operand)} {vs : List (Nat × AV)} {zs out out' : List AV} {z : AV} (hz : ZeroOk Try.prog t z) (hze : z = .arr tn es zs) (hd : dOk nt d = true) (hs : tabT.ti t = some (.arr tn len es ea e)) (hv : partsA T l = some vs) (ho : fillA vs zs = some out) (hw : weakA out = some out')
    (hzs : zs.all (fun x => Nat.beq (sizeA x) es) = true) (hos : out.all (fun x => Nat.beq (sizeA x) es) = true) (hlen : out.length = zs.length) :
    OpOK Try.prog E nt ops ⟨d, .build t l.toArray, ty, pos, af, gd⟩ T H [] ⟨.arr tn es out', []⟩ := by
  subst hze
  exact ok_bldarr tabT hd hs hz hv ho (fun _ => weakA_wkl _ _ hw) hzs hos hlen
/-- an element's address in an array of the function's own -/
theorem o_idxa {x ix : Operand} {t e : TypeId} {tn len es : Nat} {ea : Bool} {g off : Nat} {p : List Nat} {k : IntKind} {i : Int} {j : Nat} (hd : dOk nt d = true) (hs : tabT.ti t = some (.arr tn len es ea e)) (hx : evalO T x = some (.ptr g off p)) (hi : evalO T ix = some (.v (.int k i)))
    (hj : natOf i = some j) (hl : Nat.blt j len = true) : OpOK Try.prog E nt ops ⟨d, .indexAddr t x ix, ty, pos, af, gd⟩ T H [] ⟨.ptr g (off + j * es) (p ++ [j]), []⟩ := by
  have := natOf_eq hj; subst this
  have hl' : j < len := Nat.le_of_ble_eq_true hl
  exact ok_idx_ptr tabT hd hs hx hi (Int.natCast_nonneg j) (by omega)
/-- an element of an array that is handed in -/
theorem o_idxra {x ix : Operand} {t e : TypeId} {tn len es : Nat} {ea : Bool} {m : Nat} {xs : List AV} {k : IntKind} {i : Int} {j : Nat} {y : AV} (hd : dOk nt d = true) (hs : tabT.ti t = some (.arr tn len es ea e)) (hx : evalO T x = some (.ref (.arr m es xs))) (hi : evalO T ix = some (.v (.int k i))) (hj : natOf i = some j) (hl : Nat.blt j len = true) (hy : xs[j]? = some y) :
    OpOK Try.prog E nt ops ⟨d, .indexAddr t x ix, ty, pos, af, gd⟩ T H [] ⟨.ref y, []⟩ := by
  have := natOf_eq hj; subst this
  have hl' : j < len := Nat.le_of_ble_eq_true hl
  exact ok_idx_refarr tabT hd hs hx hi (Int.natCast_nonneg j) (by omega) (by simpa using hy)
end

/-! ### zero values, by a table -/
theorem zero_u64 : ZeroOk Try.prog 35 (u64A 0#64) := zero_of (v := .int .u64 0) (n := 1) (by kernel_rfl) fun U w => (rd_v rfl).2 (by rw [D64_zero]; rfl)
theorem zero_bool : ZeroOk Try.prog 4 (boolA false) := zero_of (v := .bool false) (n := 1) (by kernel_rfl) fun U w => (rd_v rfl).2 rfl
theorem zero_slents : ZeroOk Try.prog 23 (.v (.slice none 0 0)) := zero_of (v := .slice none 0 0) (n := 1) (by kernel_rfl) fun U w => (rd_v rfl).2 rfl
theorem zero_two : ZeroOk Try.prog 92 (.arr 2 1 [intA 0, intA 0]) := zero_of (v := .agg #[.int .i64 0, .int .i64 0]) (n := 2) (by kernel_rfl) fun U w => by
  simp only [intA, Rd, Rdu, Value.cells]
  exact ⟨rfl, [_], _, rfl, rfl, ⟨rfl, rfl⟩, [_], _, rfl, rfl, ⟨rfl, rfl⟩, rfl⟩
def zeroT (t : TypeId) : Option AV :=
  bif Nat.beq t 52 then some Key.zero.av else
  bif Nat.beq t 41 then some Vl.zero.av else
  bif Nat.beq t 63 then some Msg.zero.av else
  bif Nat.beq t 70 then some Ent.zero.av else
  bif Nat.beq t 3 then some (intA 0) else
  bif Nat.beq t 5 then some (byteA 0#8) else
  bif Nat.beq t 35 then some (u64A 0#64) else
  bif Nat.beq t 4 then some (boolA false) else
  bif Nat.beq t 92 then some (.arr 2 1 [intA 0, intA 0]) else
  bif Nat.beq t 22 then some (.v (.slice none 0 0)) else
  bif Nat.beq t 23 then some (.v (.slice none 0 0)) else
  none
theorem bif_ok {t u : TypeId} {a z : AV} {r : Option AV} (ha : ZeroOk Try.prog u a) (hr : r = some z → ZeroOk Try.prog t z) (h : (bif Nat.beq t u then some a else r) = some z) : ZeroOk Try.prog t z := by
  cases hb : Nat.beq t u with
  | true => rw [hb, cond_true, Option.some.injEq] at h; subst h; have := Nat.eq_of_beq_eq_true hb; subst this; exact ha
  | false => rw [hb, cond_false] at h; exact hr h
set_option maxRecDepth 100000 in
theorem zeroT_ok {t : TypeId} {z : AV} (h : zeroT t = some z) : ZeroOk Try.prog t z := by
  unfold zeroT at h
  refine bif_ok zero_Key (fun h => ?_) h -- 52
  refine bif_ok zero_Vl (fun h => ?_) h -- 41
  refine bif_ok zero_Msg (fun h => ?_) h -- 63
  refine bif_ok zero_Ent (fun h => ?_) h -- 70
  refine bif_ok zero_int (fun h => ?_) h
  refine bif_ok zero_byte (fun h => ?_) h
  refine bif_ok zero_u64 (fun h => ?_) h
  refine bif_ok zero_bool (fun h => ?_) h
  refine bif_ok zero_two (fun h => ?_) h
  refine bif_ok zero_slints (fun h => ?_) h -- 22
  refine bif_ok zero_slents (fun h => ?_) h
  cases h
section
variable {E : Env} {nt : Nat} {ops : Array Oper} {T : Nat → Option AV} {H : Hp} {d : Option Nat} {ty : TypeId} {pos : String} {af : Array Edge} {gd : Option (Nat × Bool)}
set_option maxRecDepth 100000 in
theorem z_bld {t n : Nat} {fs : List (Nat × Nat × Bool)} {l : List (Nat × Operand)} {vs : List (Nat × AV)} {zs out out' : List AV} (hz : zeroT t = some (.agg n zs)) (hd : dOk nt d = true) (hs : tabT.ti t = some (.st n fs)) (hv : partsA T l = some vs) (ho : fillA vs zs = some out) (hf : forceA out = some out') (hp : placesOk 0 zs fs = true) :
    OpOK Try.prog E nt ops ⟨d, .build t l.toArray, ty, pos, af, gd⟩ T H [] ⟨.agg n out', []⟩ := o_bld (zeroT_ok hz) rfl hd hs hv ho hf hp
set_option maxRecDepth 100000 in
theorem z_blda {t e : TypeId} {tn len es : Nat} {ea : Bool} {l : List (Nat × Operand)} {vs : List (Nat × AV)} {zs out out' : List AV} (hz : zeroT t = some (.arr tn es zs)) (hd : dOk nt d = true) (hs : tabT.ti t = some (.arr tn len es ea e)) (hv : partsA T l = some vs) (ho : fillA vs zs = some out) (hw : weakA out = some out')
    (hzs : zs.all (fun x => Nat.beq (sizeA x) es) = true) (hos : out.all (fun x => Nat.beq (sizeA x) es) = true) (hlen : out.length = zs.length) :
    OpOK Try.prog E nt ops ⟨d, .build t l.toArray, ty, pos, af, gd⟩ T H [] ⟨.arr tn es out', []⟩ := o_blda (zeroT_ok hz) rfl hd hs hv ho hw hzs hos hlen
set_option maxRecDepth 100000 in
theorem z_alloc {e : TypeId} {z : AV} {g : Nat} (hz : zeroT e = some z) (hd : dOk nt (some g) = true) (hg : H g = none) : OpOK Try.prog E nt ops ⟨some g, .alloc e, ty, pos, af, gd⟩ T H [] ⟨.ptr g 0 [], [(g, .var z)]⟩ := o_alloc (zeroT_ok hz) hd hg
set_option maxRecDepth 100000 in
theorem z_bsll {t e : TypeId} {es bytes len : Nat} {ea : Bool} {l : List (Nat × Operand)} {z : AV} {out ys : List AV} {g : Nat} (hs : tabT.ti t = some (.sl e (es + 1) bytes ea)) (hz : zeroT e = some z) (hzs : sizeA z = es + 1) (hd : dOk nt (some g) = true) (hv : seqA T (es + 1) 0 l = some out) (hg : H g = none)
    (hlen : out.length = len + 1) (hsmall : Nat.ble ((len + 1) * (es + 1)) 16777216 = true) (hw : weakA out = some ys) :
    OpOK Try.prog E nt ops ⟨some g, .buildSlice t (len + 1) l.toArray, ty, pos, af, gd⟩ T H [] ⟨.sl (some g) (es + 1) ys, [(g, .tail e (es + 1) (len + 1))]⟩ := o_bsll (zeroT_ok hz) hzs hd hs hv hg hlen hsmall hw
end
/-! ### entries built whole -/
section
variable {E : Env} {nt : Nat} {ops : Array Oper} {T : Nat → Option AV} {H : Hp} {d : Option Nat} {ty : TypeId} {pos : String} {af : Array Edge} {gd : Option (Nat × Bool)}
set_option maxRecDepth 100000 in
theorem e_bld {x y : Operand} {a : Key} {b : Vl} (hd : dOk nt d = true) (hx : evalO T x = some a.av) (hy : evalO T y = some b.av) : OpOK Try.prog E nt ops ⟨d, .build 70 #[(0, x), (1, y)], ty, pos, af, gd⟩ T H [] ⟨Ent.av ⟨a, b⟩, []⟩ :=
  z_bld (l := [(0, x), (1, y)]) (vs := [(0, a.av), (1, b.av)]) (zs := [Key.zero.av, Vl.zero.av]) (out := [a.av, b.av]) (out' := [a.av, b.av]) (n := 26) rfl hd rfl (by simp only [partsA, hx, hy]; rfl) rfl rfl rfl
set_option maxRecDepth 100000 in
theorem e_bldk {x : Operand} {a : Key} (hd : dOk nt d = true) (hx : evalO T x = some a.av) : OpOK Try.prog E nt ops ⟨d, .build 70 #[(0, x)], ty, pos, af, gd⟩ T H [] ⟨Ent.av ⟨a, Vl.zero⟩, []⟩ :=
  z_bld (l := [(0, x)]) (vs := [(0, a.av)]) (zs := [Key.zero.av, Vl.zero.av]) (out := [a.av, Vl.zero.av]) (out' := [a.av, Vl.zero.av]) (n := 26) rfl hd rfl (by simp only [partsA, hx]; rfl) rfl rfl rfl
theorem o_quo2 {t t' : TypeId} {x y : Operand} {a : Nat} (hd : dOk nt d = true) (hx : evalO T x = some (.v (.int .i64 (a : Nat)))) (hy : evalO T y = some (.v (.int .i64 2))) (h : a ≤ 9223372036854775807) : OpOK Try.prog E nt ops ⟨d, .binOp .quo t x y t', ty, pos, af, gd⟩ T H [] ⟨.v (.int .i64 ((a / 2 : Nat) : Int)), []⟩ := by
  have := o_quo (E := E) (ops := ops) (H := H) (ty := ty) (pos := pos) (af := af) (gd := gd) (t := t) (t' := t') hd hx hy (by omega)
  rwa [show ((a : Nat) : Int) / 2 = ((a / 2 : Nat) : Int) from by omega] at this
end
end Go.Proofs.Ytofcabhahdecdaa

namespace Go.Proofs.Ytofcabhahdecdaa
open Go Go.RowKit
set_option linter.unusedVariables false
set_option linter.unusedSimpArgs false

theorem beq_bytes {a b : ByteArray} : (a == b) = true ↔ a = b := by
  cases a with | mk x => cases b with | mk y =>
  show ((x == y) = true) ↔ _
  rw [beq_iff_eq, ByteArray.mk.injEq]
/-! ### api.Op -/
structure Opn where
  kind : Int
  key : ByteArray
  val : ByteArray
  add : BitVec 64
def Opn.beq (a b : Opn) : Bool := a.kind == b.kind && a.key == b.key && a.val == b.val && a.add == b.add
theorem Opn.beq_iff {a b : Opn} : a.beq b = true ↔ a = b := by
  cases a; cases b
  simp [Opn.beq, and_assoc, beq_bytes]
instance : DecidableEq Opn := fun a b => decidable_of_iff (a.beq b = true) Opn.beq_iff
theorem Opn.beq_dec (a b : Opn) : a.beq b = decide (a = b) := by rw [Bool.eq_iff_iff, Opn.beq_iff, decide_eq_true_eq]
@[irreducible] def Opn.arr (s : Opn) : Array Value := cat (cat (cat (cel (.int .i64 s.kind)) (cel (.string s.key))) (cel (.string s.val))) (cel (.int .u64 (D64 s.add)))
theorem Opn.arr_def (s : Opn) : s.arr = cat (cat (cat (cel (.int .i64 s.kind)) (cel (.string s.key))) (cel (.string s.val))) (cel (.int .u64 (D64 s.add))) := by unfold Opn.arr; rfl
theorem Opn.arr_size (s : Opn) : s.arr.size = 4 := by rw [Opn.arr_def]; simp [cat_size, cel_size, ]
theorem Opn.arr_one (s : Opn) : oneCells s.arr = true := by rw [Opn.arr_def]; simp [oneCells_cat, oneCells_cel, Value.oneCell']
theorem Opn.put (s x : Opn) : splice s.arr 0 x.arr = x.arr := splice_full _ _ (by rw [Opn.arr_size, Opn.arr_size])
theorem Opn.row (s : Opn) : rowOf s.arr 0 4 = some s.arr := rowOf_full _ _ s.arr_size
theorem Opn.arr_kind (s : Opn) : s.arr[0]? = some (.int .i64 s.kind) := by
  refine get_of_row ?_; rw [Opn.arr_def]; simp [rowOf_cat_left, rowOf_cat_right, rowOf_here, cat_size, cel_size]
theorem Opn.get_kind (s : Opn) (hs : 0 < s.arr.size) : s.arr[0]'hs = .int .i64 s.kind := (Array.getElem?_eq_some_iff.1 (Opn.arr_kind s)).2
theorem Opn.put_kind (s : Opn) (x : Int) : splice s.arr 0 #[.int .i64 x] = ({ s with kind := x } : Opn).arr := by rw [Opn.arr_def, Opn.arr_def, ← cel_def]; simp [splice_cat_left, splice_cat_right, splice_all, cat_size, cel_size]
theorem Opn.set_kind (s : Opn) (x : Int) : s.arr.setIfInBounds 0 (.int .i64 x) = ({ s with kind := x } : Opn).arr := (splice_single _ _ _ (by rw [Opn.arr_size]; omega)).symm.trans (Opn.put_kind s x)
theorem Opn.arr_key (s : Opn) : s.arr[1]? = some (.string s.key) := by
  refine get_of_row ?_; rw [Opn.arr_def]; simp [rowOf_cat_left, rowOf_cat_right, rowOf_here, cat_size, cel_size]
theorem Opn.get_key (s : Opn) (hs : 1 < s.arr.size) : s.arr[1]'hs = .string s.key := (Array.getElem?_eq_some_iff.1 (Opn.arr_key s)).2
theorem Opn.put_key (s : Opn) (x : ByteArray) : splice s.arr 1 #[.string x] = ({ s with key := x } : Opn).arr := by rw [Opn.arr_def, Opn.arr_def, ← cel_def]; simp [splice_cat_left, splice_cat_right, splice_all, cat_size, cel_size]
theorem Opn.set_key (s : Opn) (x : ByteArray) : s.arr.setIfInBounds 1 (.string x) = ({ s with key := x } : Opn).arr := (splice_single _ _ _ (by rw [Opn.arr_size]; omega)).symm.trans (Opn.put_key s x)
theorem Opn.arr_val (s : Opn) : s.arr[2]? = some (.string s.val) := by
  refine get_of_row ?_; rw [Opn.arr_def]; simp [rowOf_cat_left, rowOf_cat_right, rowOf_here, cat_size, cel_size]
theorem Opn.get_val (s : Opn) (hs : 2 < s.arr.size) : s.arr[2]'hs = .string s.val := (Array.getElem?_eq_some_iff.1 (Opn.arr_val s)).2
theorem Opn.put_val (s : Opn) (x : ByteArray) : splice s.arr 2 #[.string x] = ({ s with val := x } : Opn).arr := by rw [Opn.arr_def, Opn.arr_def, ← cel_def]; simp [splice_cat_left, splice_cat_right, splice_all, cat_size, cel_size]
theorem Opn.set_val (s : Opn) (x : ByteArray) : s.arr.setIfInBounds 2 (.string x) = ({ s with val := x } : Opn).arr := (splice_single _ _ _ (by rw [Opn.arr_size]; omega)).symm.trans (Opn.put_val s x)
theorem Opn.arr_add (s : Opn) : s.arr[3]? = some (.int .u64 (D64 s.add)) := by
  refine get_of_row ?_; rw [Opn.arr_def]; simp [rowOf_cat_left, rowOf_cat_right, rowOf_here, cat_size, cel_size]
theorem Opn.get_add (s : Opn) (hs : 3 < s.arr.size) : s.arr[3]'hs = .int .u64 (D64 s.add) := (Array.getElem?_eq_some_iff.1 (Opn.arr_add s)).2
theorem Opn.put_add (s : Opn) (x : BitVec 64) : splice s.arr 3 #[.int .u64 (D64 x)] = ({ s with add := x } : Opn).arr := by rw [Opn.arr_def, Opn.arr_def, ← cel_def]; simp [splice_cat_left, splice_cat_right, splice_all, cat_size, cel_size]
theorem Opn.set_add (s : Opn) (x : BitVec 64) : s.arr.setIfInBounds 3 (.int .u64 (D64 x)) = ({ s with add := x } : Opn).arr := (splice_single _ _ _ (by rw [Opn.arr_size]; omega)).symm.trans (Opn.put_add s x)
def Opn.zero : Opn := { kind := 0, key := .empty, val := .empty, add := 0#64 }
theorem Opn.zero_kind : Opn.zero.kind = 0 := rfl
theorem Opn.zero_key : Opn.zero.key = .empty := rfl
theorem Opn.zero_val : Opn.zero.val = .empty := rfl
theorem Opn.zero_add : Opn.zero.add = 0#64 := rfl
theorem Opn.zero_arr : Opn.zero.arr = #[.int .i64 0, .string .empty, .string .empty, .int .u64 0] := by rw [Opn.arr_def]; simp [cat_def, cel_def, Opn.zero, bArr_zero, D64_zero]
theorem Opn.info : (Try.prog.info? 37).map (fun i => (i.zero, i.size)) = some (some (.agg Opn.zero.arr), 4) := by rw [Opn.zero_arr]; kernel_rfl
theorem Opn.size' : (Try.prog.info? 37).map (·.size) = some 4 := by kernel_rfl
theorem Opn.ld (v : Value) : Instr.loadAt 37 v = ldRow 37 v := ldRow_eq _ _
theorem Opn.st (a v : Value) : Instr.storeAt 37 a v = stRow 37 a v := stRow_eq _ _ _
theorem Opn.al (h : Bool) (v : Value) : Instr.alloc 37 h v = alRow 37 h v := alRow_eq _ _ _
theorem Opn.bd (ps : Array (Nat × Value)) : Instr.build 37 ps = bdRow 37 ps := bdRow_eq _ _
theorem Opn.load (b off : Nat) (w : World) : (ldRow 37 (.pointer (some ⟨b, off, none⟩))).run Try.prog w = onRow (row? w b off 4) w ((ldRow' 37 (.pointer (some ⟨b, off, none⟩))).run Try.prog w) :=
  run_ldRow Try.underlying37 rfl Opn.size' b off w
theorem Opn.store (b off : Nat) (s : Opn) (w : World) : (stRow 37 (.pointer (some ⟨b, off, none⟩)) (.agg s.arr)).run Try.prog w = onPut ((row? w b off 4).isSome && free? w b) (.ok () (putRow w b off s.arr)) ((stRow' 37 (.pointer (some ⟨b, off, none⟩)) (.agg s.arr)).run Try.prog w) :=
  run_stRow Opn.size' b off _ w s.arr_size s.arr_one
theorem Opn.alloc (w : World) (v : Value) : (alRow 37 true v).run Try.prog w = .ok (.pointer (some ⟨w.heap.size, 0, none⟩)) (w.alloc (.cells Opn.zero.arr 37)) :=
  run_alRow (z := .agg Opn.zero.arr) (zero_of_info Opn.info) w v
theorem Opn.fields : (Try.prog.fieldsOf 37).toList.map (fun f => (f.name == "_", f.type, f.offset)) = [(false, 3, 0), (false, 9, 1), (false, 9, 2), (false, 35, 3)] := by kernel_rfl
theorem Opn.under : Try.prog.underlying 37 = some (.struct (Try.prog.fieldsOf 37)) := by kernel_rfl
theorem Opn.eq_ (d : Nat) (a b : Opn) (w : World) : (Op.equalIn (d + 2) 37 (.agg a.arr) (.agg b.arr)).run Try.prog w = .ok (a.beq b) w := by
  have h := run_eq_struct Opn.under (by kernel_rfl) Opn.fields (EqFs.cons (EqF.int (d := d) Try.underlying3 (Opn.arr_kind a) (Opn.arr_kind b)) (EqFs.cons (EqF.str (d := d) Try.underlying9 (Opn.arr_key a) (Opn.arr_key b)) (EqFs.cons (EqF.str (d := d) Try.underlying9 (Opn.arr_val a) (Opn.arr_val b)) (EqFs.cons (EqF.u64 (d := d) Try.underlying35 (Opn.arr_add a) (Opn.arr_add b)) EqFs.nil)))) w
  exact h.trans (by simp [Opn.beq, Bool.and_assoc])
theorem Opn.eqG : Try.prog.eqGuardType Try.prog.depth 37 = false := by kernel_rfl
theorem Opn.eql (a b : Opn) (w : World) : (binOp .eql 37 (.agg a.arr) (.agg b.arr)).run Try.prog w = .ok (.bool (decide (a = b))) w := by
  rw [run_eql_struct]; rw [show (10000 : Nat) = 9998 + 2 from rfl, Opn.eq_, Opn.beq_dec]; rfl
theorem Opn.neq (a b : Opn) (w : World) : (binOp .neq 37 (.agg a.arr) (.agg b.arr)).run Try.prog w = .ok (.bool (!decide (a = b))) w := by
  rw [run_neq_struct]; rw [show (10000 : Nat) = 9998 + 2 from rfl, Opn.eq_, Opn.beq_dec]; rfl
def Opn.place : Nat → Option (Nat × Nat)
  | 0 => some (0, 1)
  | 1 => some (1, 1)
  | 2 => some (2, 1)
  | 3 => some (3, 1)
  | _ => none
theorem Opn.places : (Try.prog.fieldsOf 37).toList.mapM (fun f => (Try.prog.info? f.type).map fun i => (f.offset, i.size)) = some [(0, 1), (1, 1), (2, 1), (3, 1)] := by kernel_rfl
theorem Opn.build (ps : List (Nat × Value)) (w : World) : (bdRow 37 ps.toArray).run Try.prog w = onRow (fillS Opn.place Opn.zero.arr ps) w ((bdRow' 37 ps.toArray).run Try.prog w) :=
  run_bdRow Opn.under (zero_of_info Opn.info) Opn.places (fun i => by match i with | 0 => rfl | 1 => rfl | 2 => rfl | 3 => rfl | n + 4 => rfl) ps w
theorem Opn.place0 : Opn.place 0 = some (0, 1) := rfl
theorem Opn.place1 : Opn.place 1 = some (1, 1) := rfl
theorem Opn.place2 : Opn.place 2 = some (2, 1) := rfl
theorem Opn.place3 : Opn.place 3 = some (3, 1) := rfl
attribute [go_sem ↓] Opn.ld Opn.st Opn.al Opn.bd Opn.eql Opn.neq
attribute [go_sem] Opn.arr_size Opn.arr_one Opn.row Opn.put Opn.arr_kind Opn.get_kind Opn.put_kind Opn.set_kind Opn.arr_key Opn.get_key Opn.put_key Opn.set_key Opn.arr_val Opn.get_val Opn.put_val Opn.set_val Opn.arr_add Opn.get_add Opn.put_add Opn.set_add Opn.zero_kind Opn.zero_key Opn.zero_val Opn.zero_add Opn.place0 Opn.place1 Opn.place2 Opn.place3 Opn.load Opn.store Opn.alloc Opn.build Opn.eqG
theorem Opn.enc : EncOk Opn.arr 4 := ⟨Opn.arr_size, Opn.arr_one, by omega⟩

/-! ### api.Answer -/
structure Ans where
  code : Int
  found : Bool
  val : Vl
def Ans.beq (a b : Ans) : Bool := a.code == b.code && a.found == b.found && a.val.beq b.val
theorem Ans.beq_iff {a b : Ans} : a.beq b = true ↔ a = b := by
  cases a; cases b
  simp [Ans.beq, and_assoc, Vl.beq_iff]
instance : DecidableEq Ans := fun a b => decidable_of_iff (a.beq b = true) Ans.beq_iff
theorem Ans.beq_dec (a b : Ans) : a.beq b = decide (a = b) := by rw [Bool.eq_iff_iff, Ans.beq_iff, decide_eq_true_eq]
@[irreducible] def Ans.arr (s : Ans) : Array Value := cat (cat (cel (.int .i64 s.code)) (cel (.bool s.found))) (s.val.arr)
theorem Ans.arr_def (s : Ans) : s.arr = cat (cat (cel (.int .i64 s.code)) (cel (.bool s.found))) (s.val.arr) := by unfold Ans.arr; rfl
theorem Ans.arr_size (s : Ans) : s.arr.size = 19 := by rw [Ans.arr_def]; simp [cat_size, cel_size, Vl.arr_size]
theorem Ans.arr_one (s : Ans) : oneCells s.arr = true := by rw [Ans.arr_def]; simp [oneCells_cat, oneCells_cel, Value.oneCell', Vl.arr_one]
theorem Ans.put (s x : Ans) : splice s.arr 0 x.arr = x.arr := splice_full _ _ (by rw [Ans.arr_size, Ans.arr_size])
theorem Ans.row (s : Ans) : rowOf s.arr 0 19 = some s.arr := rowOf_full _ _ s.arr_size
theorem Ans.arr_code (s : Ans) : s.arr[0]? = some (.int .i64 s.code) := by
  refine get_of_row ?_; rw [Ans.arr_def]; simp [rowOf_cat_left, rowOf_cat_right, rowOf_here, cat_size, cel_size, Vl.arr_size]
theorem Ans.get_code (s : Ans) (hs : 0 < s.arr.size) : s.arr[0]'hs = .int .i64 s.code := (Array.getElem?_eq_some_iff.1 (Ans.arr_code s)).2
theorem Ans.put_code (s : Ans) (x : Int) : splice s.arr 0 #[.int .i64 x] = ({ s with code := x } : Ans).arr := by rw [Ans.arr_def, Ans.arr_def, ← cel_def]; simp [splice_cat_left, splice_cat_right, splice_all, cat_size, cel_size, Vl.arr_size]
theorem Ans.set_code (s : Ans) (x : Int) : s.arr.setIfInBounds 0 (.int .i64 x) = ({ s with code := x } : Ans).arr := (splice_single _ _ _ (by rw [Ans.arr_size]; omega)).symm.trans (Ans.put_code s x)
theorem Ans.arr_found (s : Ans) : s.arr[1]? = some (.bool s.found) := by
  refine get_of_row ?_; rw [Ans.arr_def]; simp [rowOf_cat_left, rowOf_cat_right, rowOf_here, cat_size, cel_size, Vl.arr_size]
theorem Ans.get_found (s : Ans) (hs : 1 < s.arr.size) : s.arr[1]'hs = .bool s.found := (Array.getElem?_eq_some_iff.1 (Ans.arr_found s)).2
theorem Ans.put_found (s : Ans) (x : Bool) : splice s.arr 1 #[.bool x] = ({ s with found := x } : Ans).arr := by rw [Ans.arr_def, Ans.arr_def, ← cel_def]; simp [splice_cat_left, splice_cat_right, splice_all, cat_size, cel_size, Vl.arr_size]
theorem Ans.set_found (s : Ans) (x : Bool) : s.arr.setIfInBounds 1 (.bool x) = ({ s with found := x } : Ans).arr := (splice_single _ _ _ (by rw [Ans.arr_size]; omega)).symm.trans (Ans.put_found s x)
theorem Ans.row_val (s : Ans) : rowOf s.arr 2 17 = some (s.val.arr) := by rw [Ans.arr_def]; simp [rowOf_cat_left, rowOf_cat_right, rowOf_here, cat_size, cel_size, Vl.arr_size]
theorem Ans.put_val (s : Ans) (x : Vl) : splice s.arr 2 (x.arr) = ({ s with val := x } : Ans).arr := by rw [Ans.arr_def, Ans.arr_def]; simp [splice_cat_left, splice_cat_right, splice_all, cat_size, cel_size, Vl.arr_size]
def Ans.zero : Ans := { code := 0, found := false, val := Vl.zero }
theorem Ans.zero_code : Ans.zero.code = 0 := rfl
theorem Ans.zero_found : Ans.zero.found = false := rfl
theorem Ans.zero_val : Ans.zero.val = Vl.zero := rfl
theorem Ans.zero_arr : Ans.zero.arr = #[.int .i64 0, .bool false, .int .i64 0, .int .u8 0, .int .u8 0, .int .u8 0, .int .u8 0, .int .u8 0, .int .u8 0, .int .u8 0, .int .u8 0, .int .u8 0, .int .u8 0, .int .u8 0, .int .u8 0, .int .u8 0, .int .u8 0, .int .u8 0, .int .u8 0] := by rw [Ans.arr_def]; simp [cat_def, cel_def, Ans.zero, bArr_zero, D64_zero, Vl.zero_arr]
theorem Ans.info : (Try.prog.info? 43).map (fun i => (i.zero, i.size)) = some (some (.agg Ans.zero.arr), 19) := by rw [Ans.zero_arr]; kernel_rfl
theorem Ans.size' : (Try.prog.info? 43).map (·.size) = some 19 := by kernel_rfl
theorem Ans.ld (v : Value) : Instr.loadAt 43 v = ldRow 43 v := ldRow_eq _ _
theorem Ans.st (a v : Value) : Instr.storeAt 43 a v = stRow 43 a v := stRow_eq _ _ _
theorem Ans.al (h : Bool) (v : Value) : Instr.alloc 43 h v = alRow 43 h v := alRow_eq _ _ _
theorem Ans.bd (ps : Array (Nat × Value)) : Instr.build 43 ps = bdRow 43 ps := bdRow_eq _ _
theorem Ans.load (b off : Nat) (w : World) : (ldRow 43 (.pointer (some ⟨b, off, none⟩))).run Try.prog w = onRow (row? w b off 19) w ((ldRow' 43 (.pointer (some ⟨b, off, none⟩))).run Try.prog w) :=
  run_ldRow Try.underlying43 rfl Ans.size' b off w
theorem Ans.store (b off : Nat) (s : Ans) (w : World) : (stRow 43 (.pointer (some ⟨b, off, none⟩)) (.agg s.arr)).run Try.prog w = onPut ((row? w b off 19).isSome && free? w b) (.ok () (putRow w b off s.arr)) ((stRow' 43 (.pointer (some ⟨b, off, none⟩)) (.agg s.arr)).run Try.prog w) :=
  run_stRow Ans.size' b off _ w s.arr_size s.arr_one
theorem Ans.alloc (w : World) (v : Value) : (alRow 43 true v).run Try.prog w = .ok (.pointer (some ⟨w.heap.size, 0, none⟩)) (w.alloc (.cells Ans.zero.arr 43)) :=
  run_alRow (z := .agg Ans.zero.arr) (zero_of_info Ans.info) w v
theorem Ans.fields : (Try.prog.fieldsOf 43).toList.map (fun f => (f.name == "_", f.type, f.offset)) = [(false, 38, 0), (false, 4, 1), (false, 41, 2)] := by kernel_rfl
theorem Ans.under : Try.prog.underlying 43 = some (.struct (Try.prog.fieldsOf 43)) := by kernel_rfl
theorem Ans.eq_ (d : Nat) (a b : Ans) (w : World) : (Op.equalIn (d + 4) 43 (.agg a.arr) (.agg b.arr)).run Try.prog w = .ok (a.beq b) w := by
  have h := run_eq_struct Ans.under (by kernel_rfl) Ans.fields (EqFs.cons (EqF.int (d := (d + 2)) Try.underlying38 (Ans.arr_code a) (Ans.arr_code b)) (EqFs.cons (EqF.bool (d := (d + 2)) Try.underlying4 (Ans.arr_found a) (Ans.arr_found b)) (EqFs.cons (EqF.agg Try.underlying41 rfl (by kernel_rfl) (Ans.row_val a) (Ans.row_val b) (Vl.eq_ d _ _)) EqFs.nil))) w
  exact h.trans (by simp [Ans.beq, Bool.and_assoc])
theorem Ans.eqG : Try.prog.eqGuardType Try.prog.depth 43 = false := by kernel_rfl
theorem Ans.eql (a b : Ans) (w : World) : (binOp .eql 43 (.agg a.arr) (.agg b.arr)).run Try.prog w = .ok (.bool (decide (a = b))) w := by
  rw [run_eql_struct]; rw [show (10000 : Nat) = 9996 + 4 from rfl, Ans.eq_, Ans.beq_dec]; rfl
theorem Ans.neq (a b : Ans) (w : World) : (binOp .neq 43 (.agg a.arr) (.agg b.arr)).run Try.prog w = .ok (.bool (!decide (a = b))) w := by
  rw [run_neq_struct]; rw [show (10000 : Nat) = 9996 + 4 from rfl, Ans.eq_, Ans.beq_dec]; rfl
def Ans.place : Nat → Option (Nat × Nat)
  | 0 => some (0, 1)
  | 1 => some (1, 1)
  | 2 => some (2, 17)
  | _ => none
theorem Ans.places : (Try.prog.fieldsOf 43).toList.mapM (fun f => (Try.prog.info? f.type).map fun i => (f.offset, i.size)) = some [(0, 1), (1, 1), (2, 17)] := by kernel_rfl
theorem Ans.build (ps : List (Nat × Value)) (w : World) : (bdRow 43 ps.toArray).run Try.prog w = onRow (fillS Ans.place Ans.zero.arr ps) w ((bdRow' 43 ps.toArray).run Try.prog w) :=
  run_bdRow Ans.under (zero_of_info Ans.info) Ans.places (fun i => by match i with | 0 => rfl | 1 => rfl | 2 => rfl | n + 3 => rfl) ps w
theorem Ans.place0 : Ans.place 0 = some (0, 1) := rfl
theorem Ans.place1 : Ans.place 1 = some (1, 1) := rfl
theorem Ans.place2 : Ans.place 2 = some (2, 17) := rfl
attribute [go_sem ↓] Ans.ld Ans.st Ans.al Ans.bd Ans.eql Ans.neq
attribute [go_sem] Ans.arr_size Ans.arr_one Ans.row Ans.put Ans.arr_code Ans.get_code Ans.put_code Ans.set_code Ans.arr_found Ans.get_found Ans.put_found Ans.set_found Ans.row_val Ans.put_val Ans.zero_code Ans.zero_found Ans.zero_val Ans.place0 Ans.place1 Ans.place2 Ans.load Ans.store Ans.alloc Ans.build Ans.eqG
theorem Ans.enc : EncOk Ans.arr 19 := ⟨Ans.arr_size, Ans.arr_one, by omega⟩


/-! ### readings -/
def strA (s : ByteArray) : AV := .v (.string s)
def Opn.av (o : Opn) : AV := .agg 4 [intA o.kind, strA o.key, strA o.val, u64A o.add]
def Ans.av (a : Ans) : AV := .agg 19 [intA a.code, boolA a.found, a.val.av]
section
variable {U : Uns} {w : World} {B : Blk} {H : Hp}
theorem Opn.rd {m : Opn} {c : List Value} : Rd U w m.av B H c ↔ c = m.arr.toList := by
  refine rd_agg (by have := m.arr_size; simpa using this) ((rds_cons (fun c => rd_v rfl) fun c => rds_cons (fun c => rd_v rfl) fun c => rds_cons (fun c => rd_v rfl) fun c => rds_cons (fun c => rd_v rfl) fun c => rds_nil).trans ?_)
  rw [Opn.arr_def]; simp [cat_list, cel_list]
theorem Ans.rd {m : Ans} {c : List Value} : Rd U w m.av B H c ↔ c = m.arr.toList := by
  refine rd_agg (by have := m.arr_size; simpa using this) ((rds_cons (fun c => rd_v rfl) fun c => rds_cons (fun c => rd_v rfl) fun c => rds_cons (fun c => Vl.rd) fun c => rds_nil).trans ?_)
  rw [Ans.arr_def]; simp [cat_list, cel_list]
end
def dOpn : DT Opn := ⟨37, 4, Opn.av, Opn.arr, Opn.rd, fun _ => rfl, Opn.enc⟩
def dAns : DT Ans := ⟨43, 19, Ans.av, Ans.arr, Ans.rd, fun _ => rfl, Ans.enc⟩
theorem zero_Opn : ZeroOk Try.prog 37 Opn.zero.av := zero_of Opn.info fun U w => Opn.rd.2 rfl
theorem zero_Ans : ZeroOk Try.prog 43 Ans.zero.av := zero_of Ans.info fun U w => Ans.rd.2 rfl
def opsA (l : List Opn) : AV := .sl none 4 (l.map Opn.av)
def ansA (l : List Ans) : AV := .sl none 19 (l.map Ans.av)
section
variable {E : Env} {nt : Nat} {ops : Array Oper} {T : Nat → Option AV} {H : Hp} {d : Option Nat} {ty : TypeId} {pos : String} {af : Array Edge} {gd : Option (Nat × Bool)}
theorem o_eqAns {t' : TypeId} {x y : Operand} {a b : Ans} (hd : dOk nt d = true) (hx : evalO T x = some a.av) (hy : evalO T y = some b.av) : OpOK Try.prog E nt ops ⟨d, .binOp .eql 43 x y t', ty, pos, af, gd⟩ T H [] ⟨.v (.bool (decide (a = b))), []⟩ := o_eqd dAns Ans.eql Ans.eqG hd hx hy
theorem o_neAns {t' : TypeId} {x y : Operand} {a b : Ans} (hd : dOk nt d = true) (hx : evalO T x = some a.av) (hy : evalO T y = some b.av) : OpOK Try.prog E nt ops ⟨d, .binOp .neq 43 x y t', ty, pos, af, gd⟩ T H [] ⟨.v (.bool (decide (a ≠ b))), []⟩ := o_ned dAns Ans.neq Ans.eqG hd hx hy
end
end Go.Proofs.Ytofcabhahdecdaa

namespace Go.Proofs.Ytofcabhahdecdaa
open Go Go.RowKit
set_option linter.unusedVariables false
set_option linter.unusedSimpArgs false
set_option maxRecDepth 100000

/-! ### the order of texts -/
def lexCmp : List (BitVec 8) → List (BitVec 8) → Int
  | [], [] => 0
  | [], _ :: _ => -1
  | _ :: _, [] => 1
  | a :: l, b :: m => if a.toNat < b.toNat then -1 else if b.toNat < a.toNat then 1 else lexCmp l m
theorem compareBytes_eq : ∀ (l m : List (BitVec 8)), Lib.compareBytes (bytesOf l).data.toList (bytesOf m).data.toList = lexCmp l m
  | [], [] => by rw [bytesOf_def]; simp [Lib.compareBytes, lexCmp]
  | [], _ :: _ => by rw [bytesOf_def, bytesOf_def]; simp [Lib.compareBytes, lexCmp]
  | _ :: _, [] => by rw [bytesOf_def, bytesOf_def]; simp [Lib.compareBytes, lexCmp]
  | a :: l, b :: m => by
    have ih := compareBytes_eq l m
    have e1 : (bytesOf (a :: l)).data.toList = UInt8.ofBitVec a :: (bytesOf l).data.toList := by rw [bytesOf_def, bytesOf_def]; simp
    have e2 : (bytesOf (b :: m)).data.toList = UInt8.ofBitVec b :: (bytesOf m).data.toList := by rw [bytesOf_def, bytesOf_def]; simp
    rw [e1, e2, Lib.compareBytes, lexCmp, ih]
    have h1 : (UInt8.ofBitVec a < UInt8.ofBitVec b) = (a.toNat < b.toNat) := rfl
    have h2 : (UInt8.ofBitVec b < UInt8.ofBitVec a) = (b.toNat < a.toNat) := rfl
    simp only [h1, h2]
theorem lexCmp_nn : lexCmp [] [] = 0 := by simp [lexCmp]
theorem lexCmp_nc (b : BitVec 8) (l : List (BitVec 8)) : lexCmp [] (b :: l) = -1 := by simp [lexCmp]
theorem lexCmp_cn (b : BitVec 8) (l : List (BitVec 8)) : lexCmp (b :: l) [] = 1 := by simp [lexCmp]
/-- how many texts of so many bytes at most -/
def many8 : Nat → Nat
  | 0 => 1
  | m + 1 => 1 + 256 * many8 m
/-- a text's rank among those of so many bytes at most -/
def rk : Nat → List (BitVec 8) → Nat
  | 0, _ => 0
  | _ + 1, [] => 0
  | m + 1, b :: l => 1 + b.toNat * many8 m + rk m l
theorem rk_lt : ∀ (m : Nat) (l : List (BitVec 8)), rk m l < many8 m
  | 0, _ => by simp [rk, many8]
  | m + 1, [] => by simp [rk, many8]; omega
  | m + 1, b :: l => by
    have h := rk_lt m l
    have hb := b.isLt
    have h2 : b.toNat * many8 m + many8 m ≤ 256 * many8 m := by rw [← Nat.succ_mul]; exact Nat.mul_le_mul_right _ (by omega)
    simp only [rk, many8]; generalize b.toNat * many8 m = q at *; omega
def sgn (a b : Nat) : Int := if a < b then -1 else if b < a then 1 else 0
theorem sgn_lt {a b : Nat} (h : a < b) : sgn a b = -1 := by unfold sgn; rw [if_pos h]
theorem sgn_gt {a b : Nat} (h : b < a) : sgn a b = 1 := by unfold sgn; rw [if_neg (by omega), if_pos h]
theorem sgn_same (a : Nat) : sgn a a = 0 := by unfold sgn; rw [if_neg (by omega), if_neg (by omega)]
theorem lexCmp_rk : ∀ (m : Nat) (k l : List (BitVec 8)), k.length ≤ m → l.length ≤ m → lexCmp k l = sgn (rk m k) (rk m l)
  | _, [], [], _, _ => by simp [lexCmp, sgn]
  | 0, [], _ :: _, _, h => by simp at h
  | 0, _ :: _, _, h, _ => by simp at h
  | m + 1, [], b :: l, _, _ => by rw [lexCmp_nc]; exact (sgn_lt (by simp only [rk]; omega)).symm
  | m + 1, a :: k, [], _, _ => by rw [lexCmp_cn]; exact (sgn_gt (by simp only [rk]; omega)).symm
  | m + 1, a :: k, b :: l, h1, h2 => by
    have ih := lexCmp_rk m k l (by simpa using h1) (by simpa using h2)
    have hk := rk_lt m k
    have hl := rk_lt m l
    simp only [lexCmp, rk]
    rcases Nat.lt_trichotomy a.toNat b.toNat with hab | hab | hab
    · have : a.toNat * many8 m + many8 m ≤ b.toNat * many8 m := by rw [← Nat.succ_mul]; exact Nat.mul_le_mul_right _ (by omega)
      generalize a.toNat * many8 m = p at *
      generalize b.toNat * many8 m = q at *
      rw [if_pos hab]; unfold sgn; rw [if_pos (by omega)]
    · rw [if_neg (by omega), if_neg (by omega), ih, hab]
      generalize b.toNat * many8 m = q
      unfold sgn
      by_cases h3 : rk m k < rk m l
      · rw [if_pos h3, if_pos (by omega)]
      · by_cases h4 : rk m l < rk m k
        · rw [if_neg h3, if_pos h4, if_neg (by omega), if_pos (by omega)]
        · rw [if_neg h3, if_neg h4, if_neg (by omega), if_neg (by omega)]
    · have : b.toNat * many8 m + many8 m ≤ a.toNat * many8 m := by rw [← Nat.succ_mul]; exact Nat.mul_le_mul_right _ (by omega)
      generalize a.toNat * many8 m = p at *
      generalize b.toNat * many8 m = q at *
      rw [if_neg (by omega), if_pos hab]; unfold sgn; rw [if_neg (by omega), if_pos (by omega)]
theorem lexCmp_zero : ∀ (k l : List (BitVec 8)), lexCmp k l = 0 ↔ k = l
  | [], [] => by simp [lexCmp]
  | [], _ :: _ => by simp [lexCmp]
  | _ :: _, [] => by simp [lexCmp]
  | a :: k, b :: l => by
    have ih := lexCmp_zero k l
    rw [lexCmp]
    rcases Nat.lt_trichotomy a.toNat b.toNat with hab | hab | hab
    · rw [if_pos hab]; simp; intro h; rw [h] at hab; omega
    · rw [if_neg (by omega), if_neg (by omega), ih]
      have : a = b := BitVec.eq_of_toNat_eq hab
      simp [this]
    · rw [if_neg (by omega), if_pos hab]; simp; intro h; rw [h] at hab; omega
theorem sgn_zero (a b : Nat) : sgn a b = 0 ↔ a = b := by unfold sgn; split <;> (try split) <;> omega
theorem sgn_neg (a b : Nat) : sgn a b < 0 ↔ a < b := by unfold sgn; split <;> (try split) <;> omega
theorem sgn_pos (a b : Nat) : 0 < sgn a b ↔ b < a := by unfold sgn; split <;> (try split) <;> omega
theorem sgn_le (a b : Nat) : sgn a b ≤ 0 ↔ a ≤ b := by unfold sgn; split <;> (try split) <;> omega
theorem sgn_ge (a b : Nat) : 0 ≤ sgn a b ↔ b ≤ a := by unfold sgn; split <;> (try split) <;> omega

/-! ### bytes in a row of m, zero behind the n-th -/
def trunc {m : Nat} (b : Vector (BitVec 8) m) (n : Nat) : Vector (BitVec 8) m := Vector.ofFn fun i => if i.1 < n then b[i.1] else 0#8
theorem trunc_get {m : Nat} (b : Vector (BitVec 8) m) (n i : Nat) (h : i < m) : (trunc b n)[i] = if i < n then b[i] else 0#8 := by unfold trunc; simp
theorem trunc_iff {m : Nat} (b : Vector (BitVec 8) m) (n : Nat) : trunc b n = b ↔ ∀ i (h : i < m), n ≤ i → b[i] = 0#8 := by
  constructor
  · intro h i hi hn
    have := trunc_get b n i hi
    rw [h, if_neg (by omega)] at this
    exact this
  · intro h
    apply Vector.ext
    intro i hi
    rw [trunc_get]
    split
    · rfl
    · rw [h i hi (by omega)]
def padded (m : Nat) (l : List (BitVec 8)) : Vector (BitVec 8) m := Vector.ofFn fun i => l.getD i.1 0#8
theorem padded_get (m : Nat) (l : List (BitVec 8)) (i : Nat) (h : i < m) : (padded m l)[i] = l.getD i 0#8 := by unfold padded; simp
def cut {m : Nat} (b : Vector (BitVec 8) m) (n : Nat) : List (BitVec 8) := b.toList.take n
theorem cut_length {m : Nat} (b : Vector (BitVec 8) m) (n : Nat) (h : n ≤ m) : (cut b n).length = n := by unfold cut; simp; omega
theorem cut_get {m : Nat} (b : Vector (BitVec 8) m) (n i : Nat) (h : i < m) (h2 : i < n) : (cut b n)[i]? = some b[i] := by
  unfold cut
  rw [List.getElem?_take, if_pos h2]
  simp [h]
theorem padded_cut {m : Nat} (b : Vector (BitVec 8) m) (n : Nat) (h : trunc b n = b) : padded m (cut b n) = b := by
  apply Vector.ext
  intro i hi
  rw [padded_get, List.getD_eq_getElem?_getD]
  by_cases hn : i < n
  · rw [cut_get b n i hi hn]; rfl
  · rw [List.getElem?_eq_none (by unfold cut; simp; omega), (trunc_iff b n).1 h i hi (by omega)]; rfl
theorem cut_padded (m : Nat) (l : List (BitVec 8)) (h : l.length ≤ m) : cut (padded m l) l.length = l := by
  apply List.ext_getElem?
  intro i
  by_cases hi : i < l.length
  · rw [cut_get _ _ i (by omega) hi, padded_get, List.getD_eq_getElem?_getD]; simp [hi]
  · rw [List.getElem?_eq_none (by unfold cut; simp; omega), List.getElem?_eq_none (by omega)]
theorem trunc_padded (m : Nat) (l : List (BitVec 8)) : trunc (padded m l) l.length = padded m l := by
  rw [trunc_iff]
  intro i hi hn
  rw [padded_get, List.getD_eq_getElem?_getD, List.getElem?_eq_none hn]; rfl

theorem over_zero_cut {m : Nat} (b : Vector (BitVec 8) m) (n : Nat) : over (Vector.replicate m 0#8) (b.toList.take n) = trunc b n := by
  apply Vector.ext
  intro i hi
  rw [over_get, trunc_get, List.getElem?_take]
  by_cases hn : i < n
  · rw [if_pos hn, if_pos hn]; simp [hi]
  · rw [if_neg hn, if_neg hn]; simp
theorem over_zero {m : Nat} (xs : List (BitVec 8)) : over (Vector.replicate m 0#8) xs = padded m xs := by
  apply Vector.ext
  intro i hi
  rw [over_get, padded_get, List.getD_eq_getElem?_getD]; simp

/-! ### keys -/
@[irreducible] def Key.ok (k : Key) : Bool := decide (0 ≤ k.n) && decide (k.n ≤ 8) && decide (trunc k.b k.n.toNat = k.b)
theorem Key.ok_iff (k : Key) : k.ok = true ↔ 0 ≤ k.n ∧ k.n ≤ 8 ∧ trunc k.b k.n.toNat = k.b := by unfold Key.ok; simp [and_assoc]
theorem Key.ok_false (k : Key) : k.ok = false ↔ k.n < 0 ∨ 8 < k.n ∨ trunc k.b k.n.toNat ≠ k.b := by
  rw [← Bool.not_eq_true, Key.ok_iff]
  constructor
  · intro h
    by_cases h1 : k.n < 0
    · exact .inl h1
    · by_cases h2 : 8 < k.n
      · exact .inr (.inl h2)
      · exact .inr (.inr fun h3 => h ⟨by omega, by omega, h3⟩)
  · rintro (h | h | h) ⟨h1, h2, h3⟩
    · omega
    · omega
    · exact h h3
@[irreducible] def Key.txt (k : Key) : List (BitVec 8) := if k.ok then cut k.b k.n.toNat else []
theorem Key.txt_ok {k : Key} (h : k.ok = true) : k.txt = cut k.b k.n.toNat := by unfold Key.txt; rw [if_pos h]
theorem Key.txt_no {k : Key} (h : k.ok = false) : k.txt = [] := by unfold Key.txt; rw [if_neg (by rw [h]; simp)]
theorem Key.txt_length (k : Key) : k.txt.length ≤ 8 := by
  cases h : k.ok
  · rw [Key.txt_no h]; simp
  · rw [Key.txt_ok h]; unfold cut; simp; omega
theorem Key.txt_n {k : Key} (h : k.ok = true) : (k.txt.length : Int) = k.n := by
  obtain ⟨h1, h2, h3⟩ := (Key.ok_iff k).1 h
  rw [Key.txt_ok h, cut_length _ _ (by omega)]; omega
/-- the key of a text -/
def mkKey (l : List (BitVec 8)) : Key := ⟨l.length, padded 8 l⟩
theorem mkKey_ok (l : List (BitVec 8)) (h : l.length ≤ 8) : (mkKey l).ok = true := by
  rw [Key.ok_iff]
  exact ⟨by simp [mkKey], by simp [mkKey]; omega, by simpa [mkKey] using trunc_padded 8 l⟩
theorem mkKey_txt (l : List (BitVec 8)) (h : l.length ≤ 8) : (mkKey l).txt = l := by
  rw [Key.txt_ok (mkKey_ok l h)]
  simpa [mkKey] using cut_padded 8 l h
theorem Key.mk_txt {k : Key} (h : k.ok = true) : mkKey k.txt = k := by
  have hn := Key.txt_n h
  obtain ⟨h1, h2, h3⟩ := (Key.ok_iff k).1 h
  unfold mkKey
  rw [hn, Key.txt_ok h, padded_cut k.b _ h3]
theorem Key.txt_inj {a b : Key} (ha : a.ok = true) (hb : b.ok = true) (h : a.txt = b.txt) : a = b := by rw [← Key.mk_txt ha, h, Key.mk_txt hb]
def Key.rank (k : Key) : Nat := rk 8 k.txt
/-- how two keys' texts are ordered -/
def keyCmp (a b : Key) : Int := lexCmp a.txt b.txt
theorem keyCmp_rank (a b : Key) : keyCmp a b = sgn a.rank b.rank := lexCmp_rk 8 _ _ a.txt_length b.txt_length
theorem rank_inj {a b : Key} (ha : a.ok = true) (hb : b.ok = true) : a.rank = b.rank ↔ a = b := by
  constructor
  · intro h
    have h1 : keyCmp a b = 0 := by rw [keyCmp_rank, h]; simp [sgn]
    exact Key.txt_inj ha hb ((lexCmp_zero _ _).1 h1)
  · rintro rfl; rfl

/-- the document's way to compare: at place i, if it ends there -/
def cmpAt (a b : Key) (i : Nat) : Option Int :=
  if a.n ≤ i ∧ b.n ≤ i then some 0 else if a.n ≤ i then some (-1) else if b.n ≤ i then some 1
  else if (a.b.toList.getD i 0).toNat < (b.b.toList.getD i 0).toNat then some (-1) else if (b.b.toList.getD i 0).toNat < (a.b.toList.getD i 0).toNat then some 1 else none
def cmpFrom (a b : Key) : Nat → Nat → Int
  | 0, _ => 0
  | f + 1, i => (cmpAt a b i).getD (cmpFrom a b f (i + 1))
@[irreducible] def refCmp (a b : Key) : Int := cmpFrom a b 8 0
theorem refCmp_def (a b : Key) : refCmp a b = cmpFrom a b (8 - 0) 0 := by unfold refCmp; rfl
theorem cmpFrom_ends {a b : Key} {i : Nat} {c : Int} (hi : i < 8) (h : cmpAt a b i = some c) : cmpFrom a b (8 - i) i = c := by
  rw [show 8 - i = (8 - (i + 1)) + 1 from by omega, cmpFrom, h]; rfl
theorem cmpFrom_on {a b : Key} {i : Nat} (hi : i < 8) (h : cmpAt a b i = none) : cmpFrom a b (8 - i) i = cmpFrom a b (8 - (i + 1)) (i + 1) := by
  rw [show 8 - i = (8 - (i + 1)) + 1 from by omega, cmpFrom, h]; rfl
theorem cmpFrom_lex {a b : Key} (ha : a.ok = true) (hb : b.ok = true) : ∀ (f i : Nat), f + i = 8 → cmpFrom a b f i = lexCmp (a.txt.drop i) (b.txt.drop i) := by
  have la := Key.txt_length a
  have lb := Key.txt_length b
  have na := Key.txt_n ha
  have nb := Key.txt_n hb
  intro f
  induction f with
  | zero =>
    intro i h
    obtain rfl : i = 8 := by omega
    rw [List.drop_eq_nil_of_le la, List.drop_eq_nil_of_le lb, lexCmp_nn]; rfl
  | succ f ih =>
    intro i h
    rw [cmpFrom, cmpAt]
    by_cases h1 : a.n ≤ i
    · rw [List.drop_eq_nil_of_le (by omega : a.txt.length ≤ i)]
      by_cases h2 : b.n ≤ i
      · rw [if_pos ⟨h1, h2⟩, List.drop_eq_nil_of_le (by omega : b.txt.length ≤ i), lexCmp_nn]; rfl
      · rw [if_neg (by omega), if_pos h1, List.drop_eq_getElem_cons (by omega : i < b.txt.length), lexCmp_nc]; rfl
    · rw [List.drop_eq_getElem_cons (by omega : i < a.txt.length)]
      by_cases h2 : b.n ≤ i
      · rw [if_neg (by omega), if_neg h1, if_pos h2, List.drop_eq_nil_of_le (by omega : b.txt.length ≤ i), lexCmp_cn]; rfl
      · rw [if_neg (by omega), if_neg h1, if_neg h2, List.drop_eq_getElem_cons (by omega : i < b.txt.length), lexCmp]
        have ga : a.b.toList.getD i 0 = a.txt[i]'(by omega) := by
          have h5 : a.txt[i]? = some (a.b[i]'(by omega)) := by rw [Key.txt_ok ha]; exact cut_get _ _ _ _ (by omega)
          rw [List.getElem?_eq_getElem (by omega)] at h5
          injection h5 with h5
          rw [h5]; simp [List.getD_eq_getElem?_getD, (by omega : i < 8)]
        have gb : b.b.toList.getD i 0 = b.txt[i]'(by omega) := by
          have h5 : b.txt[i]? = some (b.b[i]'(by omega)) := by rw [Key.txt_ok hb]; exact cut_get _ _ _ _ (by omega)
          rw [List.getElem?_eq_getElem (by omega)] at h5
          injection h5 with h5
          rw [h5]; simp [List.getD_eq_getElem?_getD, (by omega : i < 8)]
        rw [ga, gb, ← ih (i + 1) (by omega)]
        split
        · rfl
        · split <;> rfl
theorem refCmp_key {a b : Key} (ha : a.ok = true) (hb : b.ok = true) : refCmp a b = keyCmp a b := by
  rw [refCmp_def, cmpFrom_lex ha hb 8 0 rfl]; rfl
theorem refCmp_rank {a b : Key} (ha : a.ok = true) (hb : b.ok = true) : refCmp a b = sgn a.rank b.rank := by rw [refCmp_key ha hb, keyCmp_rank]

/-! ### values -/
@[irreducible] def Vl.ok (k : Vl) : Bool := decide (0 ≤ k.n) && decide (k.n ≤ 16) && decide (trunc k.b k.n.toNat = k.b)
theorem Vl.ok_iff (k : Vl) : k.ok = true ↔ 0 ≤ k.n ∧ k.n ≤ 16 ∧ trunc k.b k.n.toNat = k.b := by unfold Vl.ok; simp [and_assoc]
def mkVl (l : List (BitVec 8)) : Vl := ⟨l.length, padded 16 l⟩
theorem mkVl_ok (l : List (BitVec 8)) (h : l.length ≤ 16) : (mkVl l).ok = true := by
  rw [Vl.ok_iff]
  exact ⟨by simp [mkVl], by simp [mkVl]; omega, by simpa [mkVl] using trunc_padded 16 l⟩
theorem Vl.zero_ok : Vl.zero.ok = true := by
  rw [Vl.ok_iff]
  refine ⟨by simp [Vl.zero], by simp [Vl.zero], ?_⟩
  rw [trunc_iff]
  intro i hi _
  simp [Vl.zero]
end Go.Proofs.Ytofcabhahdecdaa

namespace Go.Proofs.Ytofcabhahdecdaa
open Go Go.RowKit
set_option linter.unusedVariables false
set_option linter.unusedSimpArgs false
set_option maxRecDepth 100000

/-- the first place of a number, from place i on; -1 -/
def idxFrom (x : Int) : Nat → List Int → Int
  | _, [] => -1
  | i, y :: l => if y = x then (i : Int) else idxFrom x (i + 1) l
def idxOf (l : List Int) (x : Int) : Int := idxFrom x 0 l
theorem idxFrom_nil (x : Int) (i : Nat) : idxFrom x i [] = -1 := rfl
theorem idxFrom_hit (l : List Int) (x : Int) (i : Nat) (h : i < l.length) (e : l[i] = x) : idxFrom x i (l.drop i) = i := by
  rw [List.drop_eq_getElem_cons h, idxFrom, if_pos e]
theorem idxFrom_miss (l : List Int) (x : Int) (i : Nat) (h : i < l.length) (e : l[i] ≠ x) : idxFrom x i (l.drop i) = idxFrom x (i + 1) (l.drop (i + 1)) := by
  rw [List.drop_eq_getElem_cons h, idxFrom, if_neg e]
theorem idxFrom_end (l : List Int) (x : Int) (i : Nat) (h : l.length ≤ i) : idxFrom x i (l.drop i) = -1 := by
  rw [List.drop_eq_nil_of_le h]; rfl
/-- each number from place i on is a block's and stands first there -/
def kidsFrom (all : List Int) : Nat → List Int → Bool
  | _, [] => true
  | i, y :: l => decide (1 ≤ y) && decide (y < 256) && decide (idxOf all y = (i : Int)) && kidsFrom all (i + 1) l
/-- keys that are right and rise, each against the one ahead -/
def risesBy (cmp : Key → Key → Int) : Option Key → List Key → Bool
  | _, [] => true
  | p, k :: l => k.ok && (match p with | none => true | some q => decide (cmp q k < 0)) && risesBy cmp (some k) l
def fanOkBy (cmp : Key → Key → Int) (ks : List Int) (cs : List Key) : Bool :=
  decide (2 ≤ ks.length) && decide (ks.length ≤ 4) && decide (cs.length + 1 = ks.length) && kidsFrom ks 0 ks && risesBy cmp none cs
theorem risesBy_eq : ∀ (l : List Key) (p : Option Key), (∀ q, p = some q → q.ok = true) → risesBy refCmp p l = risesBy keyCmp p l
  | [], _, _ => rfl
  | k :: l, p, h => by
    simp only [risesBy]
    cases hk : k.ok
    · simp
    · rw [risesBy_eq l (some k) (fun q e => by injection e with e; rw [← e]; exact hk)]
      cases p with
      | none => rfl
      | some q =>
        have e := refCmp_key (h q rfl) hk
        simp only [e]
theorem fanOk_eq (ks : List Int) (cs : List Key) : fanOkBy refCmp ks cs = fanOkBy keyCmp ks cs := by
  unfold fanOkBy
  rw [risesBy_eq cs none (fun q e => by cases e)]
theorem kidsFrom_step (all l : List Int) (i : Nat) (h : i < l.length) : kidsFrom all i (l.drop i) = (decide (1 ≤ l[i]) && decide (l[i] < 256) && decide (idxOf all l[i] = (i : Int)) && kidsFrom all (i + 1) (l.drop (i + 1))) := by
  rw [List.drop_eq_getElem_cons h, kidsFrom]
theorem kidsFrom_end (all l : List Int) (i : Nat) (h : l.length ≤ i) : kidsFrom all i (l.drop i) = true := by
  rw [List.drop_eq_nil_of_le h]; rfl
def ahead (l : List Key) : Nat → Option Key
  | 0 => none
  | i + 1 => l[i]?
theorem risesBy_step0 (cmp : Key → Key → Int) (l : List Key) (h : 0 < l.length) : risesBy cmp (ahead l 0) (l.drop 0) = (l[0].ok && risesBy cmp (ahead l 1) (l.drop 1)) := by
  rw [List.drop_eq_getElem_cons h]
  simp [ahead, h, risesBy]
theorem risesBy_step (cmp : Key → Key → Int) (l : List Key) (i : Nat) (h : i + 1 < l.length) : risesBy cmp (ahead l (i + 1)) (l.drop (i + 1)) = (l[i + 1].ok && decide (cmp l[i] l[i + 1] < 0) && risesBy cmp (ahead l (i + 2)) (l.drop (i + 2))) := by
  rw [List.drop_eq_getElem_cons h]
  simp only [ahead]
  rw [List.getElem?_eq_getElem (show i < l.length by omega), List.getElem?_eq_getElem h]
  rfl
theorem risesBy_stepk (cmp : Key → Key → Int) (l : List Key) (k j : Nat) (hj : k = j + 1) (h : k < l.length) : risesBy cmp (ahead l k) (l.drop k) = (l[k].ok && decide (cmp (l[j]'(by omega)) l[k] < 0) && risesBy cmp (ahead l (k + 1)) (l.drop (k + 1))) := by
  subst hj
  exact risesBy_step cmp l j h
theorem risesBy_end (cmp : Key → Key → Int) (l : List Key) (p : Option Key) (i : Nat) (h : l.length ≤ i) : risesBy cmp p (l.drop i) = true := by
  rw [List.drop_eq_nil_of_le h]; rfl
/-- to which kid a key goes -/
def kidBy (cmp : Key → Key → Int) (k : Key) (l : List Key) : Nat := l.countP fun p => decide (cmp p k ≤ 0)
theorem kidBy_yes (cmp : Key → Key → Int) (k : Key) (l : List Key) (i : Nat) (h : i < l.length) (c : cmp l[i] k ≤ 0) : kidBy cmp k (l.take (i + 1)) = kidBy cmp k (l.take i) + 1 := by
  unfold kidBy
  rw [List.take_succ_eq_append_getElem h, List.countP_append]
  simp [c]
theorem kidBy_no (cmp : Key → Key → Int) (k : Key) (l : List Key) (i : Nat) (h : i < l.length) (c : ¬ cmp l[i] k ≤ 0) : kidBy cmp k (l.take (i + 1)) = kidBy cmp k (l.take i) := by
  unfold kidBy
  rw [List.take_succ_eq_append_getElem h, List.countP_append]
  simp [c]
theorem kidBy_le (cmp : Key → Key → Int) (k : Key) (l : List Key) : kidBy cmp k l ≤ l.length := List.countP_le_length
end Go.Proofs.Ytofcabhahdecdaa

namespace Go.Proofs.Ytofcabhahdecdaa
open Go Go.RowKit
set_option linter.unusedVariables false
set_option linter.unusedSimpArgs false
set_option maxRecDepth 100000


set_option maxHeartbeats 1000000 in
/-- the document's Check -/
theorem refkeycheck_any (k : Key) (w : World) : Calls Try.prog 37 #[.agg k.arr] w (Is w (.bool k.ok)) := by
  by_cases h0 : k.n < 0
  · have hok : k.ok = false := (Key.ok_false k).2 (.inl h0)
    go_enter Try.func37, Try.ntmps37
    go_wp2
    go_ret
    exact ⟨by simp [hok], (by repeat (first | exact Ext.refl _ | assumption | refine Ext.drew ?_ | refine Ext.drewN ?_ _ | refine Ext.alloc ?_ _ | refine Ext.trans ?_ (by assumption)))⟩
  have h0' : 0 ≤ k.n := by omega
  by_cases h8 : 8 < k.n
  · have hok : k.ok = false := (Key.ok_false k).2 (.inr (.inl h8))
    go_enter Try.func37, Try.ntmps37
    go_wp2
    go_ret
    exact ⟨by simp [hok], (by repeat (first | exact Ext.refl _ | assumption | refine Ext.drew ?_ | refine Ext.drewN ?_ _ | refine Ext.alloc ?_ _ | refine Ext.trans ?_ (by assumption)))⟩
  have h8' : k.n ≤ 8 := by omega
  obtain ⟨n, hn⟩ : ∃ n : Nat, k.n = (n : Int) := ⟨k.n.toNat, by omega⟩
  have H0 := Lib.hid hn
  have hn8 : n ≤ 8 := by omega
  clear hn
  go_enter Try.func37, Try.ntmps37
  go_wp2
  go_loop [3] (fun x => ∃ i : Nat, n ≤ i ∧ i ≤ 8 ∧ x = .int .i64 i ∧ ∀ j (h : j < 8), n ≤ j → j < i → k.b[j] = 0#8) (fun x => 8 - (intOf x).toNat)
  case atStart => exact ⟨n, by omega, by omega, by rw [H0.out], fun j _ h1 h2 => absurd h1 (by omega)⟩
  case round =>
    obtain ⟨i, h1, h2, rfl, hz⟩ := hrel
    have HZ := Lib.hid hz
    clear hz
    have H0' := H0.out
    have hni : k.n ≤ i := by omega
    clear H0'
    by_cases hlt : i < 8
    · by_cases hb : k.b[i] = 0#8
      · go_wp2
        go_round
        case rel =>
          refine ⟨i + 1, by omega, by omega, by go_num, fun j hj h3 h4 => ?_⟩
          by_cases h5 : j = i
          · subst h5; exact hb
          · exact HZ.out j hj h3 (by omega)
        case measure => simp [intOf]; omega
      · have hok : k.ok = false := (Key.ok_false k).2 (.inr (.inr fun h => hb ((trunc_iff _ _).1 h i hlt (by omega))))
        go_wp2
        go_ret
        exact ⟨by simp [hok], (by repeat (first | exact Ext.refl _ | assumption | refine Ext.drew ?_ | refine Ext.drewN ?_ _ | refine Ext.alloc ?_ _ | refine Ext.trans ?_ (by assumption)))⟩
    · obtain rfl : i = 8 := by omega
      have hok : k.ok = true := (Key.ok_iff k).2 ⟨h0', h8', (trunc_iff _ _).2 fun j hj h3 => HZ.out j hj (by rw [H0.out] at h3; omega) hj⟩
      go_wp2
      go_ret
      exact ⟨by simp [hok], (by repeat (first | exact Ext.refl _ | assumption | refine Ext.drew ?_ | refine Ext.drewN ?_ _ | refine Ext.alloc ?_ _ | refine Ext.trans ?_ (by assumption)))⟩

set_option maxHeartbeats 4000000 in
/-- the document's Compare -/
theorem refkeycmp_any (a b : Key) (w : World) : Calls Try.prog 40 #[.agg a.arr, .agg b.arr] w (Is w (.int .i64 (refCmp a b))) := by
  have H := Lib.hid (refCmp_def a b)
  go_enter Try.func40, Try.ntmps40
  go_wp2
  go_loopw [5] (fun x wr => ∃ i m : Nat, i ≤ 8 ∧ x = .int .i64 i ∧ refCmp a b = cmpFrom a b (8 - i) i ∧ wr = ((w.alloc (.cells a.arr 52)).alloc (.cells b.arr 52)).drewN m) (fun x _ => 8 - (intOf x).toNat)
  case atStart => exact ⟨0, 0, by omega, rfl, H.out, rfl⟩
  case round =>
    obtain ⟨i, m, hi, rfl, he, rfl⟩ := hrel
    have HE := Lib.hid he
    clear he
    by_cases hlt : i < 8
    · by_cases h1 : a.n ≤ i
      · by_cases h2 : b.n ≤ i
        · have HC := Lib.hid (HE.out.trans (cmpFrom_ends (c := 0) hlt (by unfold cmpAt; rw [if_pos ⟨h1, h2⟩])))
          go_wp2
          go_ret
          exact ⟨by simp [HC.out], (by repeat (first | exact Ext.refl _ | assumption | refine Ext.drew ?_ | refine Ext.drewN ?_ _ | refine Ext.alloc ?_ _ | refine Ext.trans ?_ (by assumption)))⟩
        · have HC := Lib.hid (HE.out.trans (cmpFrom_ends (c := -1) hlt (by unfold cmpAt; rw [if_neg (by omega), if_pos h1])))
          have h2' : (i : Int) < b.n := by omega
          go_wp2
          go_ret
          exact ⟨by simp [HC.out], (by repeat (first | exact Ext.refl _ | assumption | refine Ext.drew ?_ | refine Ext.drewN ?_ _ | refine Ext.alloc ?_ _ | refine Ext.trans ?_ (by assumption)))⟩
      · have h1' : (i : Int) < a.n := by omega
        by_cases h2 : b.n ≤ i
        · have HC := Lib.hid (HE.out.trans (cmpFrom_ends (c := 1) hlt (by unfold cmpAt; rw [if_neg (by omega), if_neg h1, if_pos h2])))
          go_wp2
          go_ret
          exact ⟨by simp [HC.out], (by repeat (first | exact Ext.refl _ | assumption | refine Ext.drew ?_ | refine Ext.drewN ?_ _ | refine Ext.alloc ?_ _ | refine Ext.trans ?_ (by assumption)))⟩
        · have h2' : (i : Int) < b.n := by omega
          have hlt' : (i : Int) < 8 := by omega
          have h0' : (0 : Int) ≤ (i : Int) := by omega
          have ga : a.b.toList.getD i 0 = a.b[i] := by simp [List.getD_eq_getElem?_getD, hlt]
          have gb : b.b.toList.getD i 0 = b.b[i] := by simp [List.getD_eq_getElem?_getD, hlt]
          by_cases h3 : B8 a.b[i] < B8 b.b[i]
          · have HC := Lib.hid (HE.out.trans (cmpFrom_ends (c := -1) hlt (by unfold cmpAt; rw [if_neg (by omega), if_neg h1, if_neg h2, ga, gb, if_pos (by rwa [B8_ltB] at h3)])))
            clear ga gb
            go_wp2
            go_quiet (fail)
            go_wp2
            go_ret
            exact ⟨by simp [HC.out], (by repeat (first | exact Ext.refl _ | assumption | refine Ext.drew ?_ | refine Ext.drewN ?_ _ | refine Ext.alloc ?_ _ | refine Ext.trans ?_ (by assumption)))⟩
          · by_cases h4 : B8 b.b[i] < B8 a.b[i]
            · have HC := Lib.hid (HE.out.trans (cmpFrom_ends (c := 1) hlt (by unfold cmpAt; rw [if_neg (by omega), if_neg h1, if_neg h2, ga, gb, if_neg (by rwa [B8_ltB] at h3), if_pos (by rwa [B8_ltB] at h4)])))
              clear ga gb
              go_wp2
              go_quiet (fail)
              go_wp2
              go_quiet (fail)
              go_wp2
              go_ret
              exact ⟨by simp [HC.out], (by repeat (first | exact Ext.refl _ | assumption | refine Ext.drew ?_ | refine Ext.drewN ?_ _ | refine Ext.alloc ?_ _ | refine Ext.trans ?_ (by assumption)))⟩
            · have HC := Lib.hid (HE.out.trans (cmpFrom_on hlt (by unfold cmpAt; rw [if_neg (by omega), if_neg h1, if_neg h2, ga, gb, if_neg (by rwa [B8_ltB] at h3), if_neg (by rwa [B8_ltB] at h4)])))
              clear ga gb
              go_wp2
              go_quiet (fail)
              go_wp2
              go_quiet (fail)
              go_wp2
              go_round
              case rel => exact ⟨i + 1, _, by omega, by go_num, HC.out, rfl⟩
              case measure => simp [intOf]; omega
    · obtain rfl : i = 8 := by omega
      have HC := Lib.hid (HE.out.trans (show cmpFrom a b (8 - 8) 8 = 0 from rfl))
      go_wp2
      go_ret
      exact ⟨by simp [HC.out], (by repeat (first | exact Ext.refl _ | assumption | refine Ext.drew ?_ | refine Ext.drewN ?_ _ | refine Ext.alloc ?_ _ | refine Ext.trans ?_ (by assumption)))⟩

end Go.Proofs.Ytofcabhahdecdaa

namespace Go.Proofs.Ytofcabhahdecdaa
open Go Go.RowKit
set_option linter.unusedVariables false
set_option linter.unusedSimpArgs false
set_option maxRecDepth 100000

/-! ### the program's Check, Text, Compare -/
set_option maxRecDepth 100000 in
set_option maxHeartbeats 4000000 in
/-- the program's Check -/
theorem keycheck_any (k : Key) (w : World) : Calls Try.prog 61 #[.agg k.arr] w (Is w (.bool k.ok)) := by
  by_cases h0 : k.n < 0
  · have hok : k.ok = false := (Key.ok_false k).2 (.inl h0)
    go_enter Try.func61, Try.ntmps61
    go_wp2
    go_ret
    exact ⟨by simp [hok], (by repeat (first | exact Ext.refl _ | assumption | refine Ext.drew ?_ | refine Ext.drewN ?_ _ | refine Ext.alloc ?_ _ | refine Ext.trans ?_ (by assumption)))⟩
  have h0' : 0 ≤ k.n := by omega
  by_cases h8 : 8 < k.n
  · have hok : k.ok = false := (Key.ok_false k).2 (.inr (.inl h8))
    go_enter Try.func61, Try.ntmps61
    go_wp2
    go_ret
    exact ⟨by simp [hok], (by repeat (first | exact Ext.refl _ | assumption | refine Ext.drew ?_ | refine Ext.drewN ?_ _ | refine Ext.alloc ?_ _ | refine Ext.trans ?_ (by assumption)))⟩
  have h8' : k.n ≤ 8 := by omega
  obtain ⟨kn, kb⟩ := k
  obtain ⟨n, rfl⟩ : ∃ n : Nat, kn = (n : Int) := ⟨kn.toNat, by simp at h0'; omega⟩
  have hn8 : n ≤ 8 := by simp at h8'; omega
  have hn8' : (n : Int) ≤ 8 := by omega
  go_enter Try.func61, Try.ntmps61
  go_wp2
  have hmin : min 8 n = n := by omega
  go_region_held3 (fun W => W.cell? ⟨w.heap.size, 0, none⟩ = some (.int .i64 (n : Int))) ((simp [go_sem])) (fail)
  go_wp2
  go_ret
  have hk : (Key.mk (n : Int) kb).ok = decide (trunc kb n = kb) := by rw [Bool.eq_iff_iff, Key.ok_iff]; simp [hn8']
  exact ⟨by rw [hk, over_zero_cut]; rfl, (by repeat (first | exact Ext.refl _ | assumption | refine Ext.drew ?_ | refine Ext.drewN ?_ _ | refine Ext.alloc ?_ _ | refine Ext.trans ?_ (by assumption)))⟩

set_option maxRecDepth 100000 in
set_option maxHeartbeats 4000000 in
/-- the program's Text -/
theorem keytext_any (k : Key) (w : World) : Calls Try.prog 56 #[.agg k.arr] w (Is w (.string (bytesOf k.txt))) := by
  cases hok : k.ok
  · have htx := Key.txt_no hok
    go_enter Try.func56, Try.ntmps56
    go_wp2_with fail
    refine (keycheck_any _ _).mono ?_
    rintro e w1 ⟨rfl, he1⟩
    go_wp2
    go_ret
    exact ⟨by rw [htx, bytesOf_nil]; rfl, (by repeat (first | exact Ext.refl _ | assumption | refine Ext.drew ?_ | refine Ext.drewN ?_ _ | refine Ext.alloc ?_ _ | refine Ext.trans ?_ (by assumption)))⟩
  · have htx := Key.txt_ok hok
    obtain ⟨h0, h8, -⟩ := (Key.ok_iff k).1 hok
    obtain ⟨kn, kb⟩ := k
    obtain ⟨n, rfl⟩ : ∃ n : Nat, kn = (n : Int) := ⟨kn.toNat, by simp at h0; omega⟩
    have hn8 : n ≤ 8 := by simp at h8; omega
    have hn8' : (n : Int) ≤ 8 := by omega
    have HT := Lib.hid htx
    clear htx
    go_enter Try.func56, Try.ntmps56
    go_wp2_with fail
    refine (keycheck_any _ _).mono ?_
    rintro e w1 ⟨rfl, he1⟩
    have hr : row? w1 w.heap.size 0 9 = some (Key.mk (n : Int) kb).arr := he1.row (by simp [go_sem])
    have hc := row_cell hr (j := 0) (by omega) (Key.arr_n _)
    have hs := sl_of_bArr (g := w.heap.size) (o := 1) (w := w1) (b := kb) (by rw [← Nat.zero_add 1, row_sub hr 1 8 (by omega)]; exact Key.row_b _) n 8 hn8 hn8 (by unfold maxLen; omega)
    have hcv := run_str_sl Try.underlying77 Try.underlying5 Try.underlying9 hs
    clear hs
    simp only [Nat.zero_add] at hc
    go_wp2
    go_ret
    exact ⟨by rw [HT.out]; rfl, (by repeat (first | exact Ext.refl _ | assumption | refine Ext.drew ?_ | refine Ext.drewN ?_ _ | refine Ext.alloc ?_ _ | refine Ext.trans ?_ (by assumption)))⟩


set_option maxRecDepth 100000 in
set_option maxHeartbeats 1000000 in
theorem cmpstring_any (a b : ByteArray) (w : World) : Calls Try.prog 60 #[.string a, .string b] w fun e w' => e = .returned (.int .i64 (Lib.compareBytes a.data.toList b.data.toList)) ∧ w' = w := by
  go_enter Try.func60, Try.ntmps60
  go_wp2
  rw [run_callFunc_extern Try.func64 (by kernel_rfl) (by kernel_rfl) (by kernel_rfl) (e := Extern.BytealgCompare.compare) (by kernel_rfl), Lib.run_compareString]
  simp only [Result.andThen]
  rw [Oper.upon_value]
  go_wp2
  go_ret
  exact ⟨rfl, rfl⟩
theorem strcmp_any (k m : List (BitVec 8)) (w : World) : Calls Try.prog 55 #[.string (bytesOf k), .string (bytesOf m)] w fun e w' => e = .returned (.int .i64 (lexCmp k m)) ∧ w' = w := by
  have H := Lib.hid (compareBytes_eq k m)
  go_enter Try.func55, Try.ntmps55
  go_wp2_with (go_at_call 60; refine (cmpstring_any _ _ _).mono ?_; rintro e w1 ⟨rfl, rfl⟩)
  go_ret
  exact ⟨by rw [H.out]; rfl, rfl⟩

set_option maxRecDepth 100000 in
set_option maxHeartbeats 4000000 in
/-- the program's Compare -/
theorem keycmp_any (a b : Key) (w : World) : Calls Try.prog 51 #[.agg a.arr, .agg b.arr] w (Is w (.int .i64 (keyCmp a b))) := by
  go_enter Try.func51, Try.ntmps51
  go_wp2
  have hA : row? ((w.alloc (.cells a.arr 52)).alloc (.cells b.arr 52)) w.heap.size 0 9 = some a.arr := by simp [go_sem]
  have hB : row? ((w.alloc (.cells a.arr 52)).alloc (.cells b.arr 52)) (w.heap.size + 1) 0 9 = some b.arr := by simp [go_sem]
  go_region_held3 (fun W => row? W w.heap.size 0 9 = some a.arr ∧ row? W (w.heap.size + 1) 0 9 = some b.arr)
    (exact ⟨Ext.row (by repeat (first | exact Ext.refl _ | assumption | refine Ext.drew ?_ | refine Ext.drewN ?_ _ | refine Ext.alloc ?_ _ | refine Ext.trans ?_ (by assumption))) hA, Ext.row (by repeat (first | exact Ext.refl _ | assumption | refine Ext.drew ?_ | refine Ext.drewN ?_ _ | refine Ext.alloc ?_ _ | refine Ext.trans ?_ (by assumption))) hB⟩)
    ((first | (go_at_call 56; refine (keytext_any _ _).mono ?_; rintro e w1 ⟨rfl, he1⟩) | (go_at_call 55; refine (strcmp_any _ _ _).mono ?_; rintro e w1 ⟨rfl, rfl⟩)))
  all_goals go_wp2
  all_goals go_ret
  all_goals exact ⟨rfl, (by repeat (first | exact Ext.refl _ | assumption | refine Ext.drew ?_ | refine Ext.drewN ?_ _ | refine Ext.alloc ?_ _ | refine Ext.trans ?_ (by assumption)))⟩
end Go.Proofs.Ytofcabhahdecdaa

namespace Go.Proofs.Ytofcabhahdecdaa
open Go Go.RowKit
set_option linter.unusedVariables false
set_option linter.unusedSimpArgs false
set_option maxRecDepth 100000

/-- the number that bytes are -/
def leNum : List (BitVec 8) → BitVec 64
  | [] => 0#64
  | b :: bs => (leNum bs <<< 8) ||| b.setWidth 64
/-- a number's bytes -/
def leBytes (n : BitVec 64) : Nat → List (BitVec 8)
  | 0 => []
  | w + 1 => n.setWidth 8 :: leBytes (n >>> 8) w
theorem leBytes_length (n : BitVec 64) (w : Nat) : (leBytes n w).length = w := by
  induction w generalizing n with
  | zero => rfl
  | succ w ih => simp [leBytes, ih]
theorem leBytes_get (n : BitVec 64) (w i : Nat) (h : i < w) : (leBytes n w)[i]? = some ((n >>> (8 * i)).setWidth 8) := by
  induction w generalizing n i with
  | zero => omega
  | succ w ih =>
    cases i with
    | zero => simp [leBytes]
    | succ i =>
      rw [leBytes, List.getElem?_cons_succ, ih _ _ (by omega), ← BitVec.shiftRight_add, show 8 + 8 * i = 8 * (i + 1) from by omega]
theorem leBytes_snoc (n : BitVec 64) (w : Nat) : leBytes n (w + 1) = leBytes n w ++ [(n >>> (8 * w)).setWidth 8] := by
  apply List.ext_getElem?
  intro i
  rw [List.getElem?_append, leBytes_length]
  by_cases h : i < w
  · rw [if_pos h, leBytes_get _ _ _ h, leBytes_get _ _ _ (by omega)]
  · rw [if_neg h]
    by_cases h2 : i = w
    · subst h2; rw [leBytes_get _ _ _ (by omega)]; simp
    · rw [List.getElem?_eq_none (by rw [leBytes_length]; omega), List.getElem?_eq_none (by simp; omega)]
theorem leNum_bit (bs : List (BitVec 8)) (b : BitVec 8) (i : Nat) (h : i < 64) : (leNum (b :: bs)).getLsbD i = if i < 8 then b.getLsbD i else (leNum bs).getLsbD (i - 8) := by
  rw [leNum, BitVec.getLsbD_or, BitVec.getLsbD_shiftLeft, BitVec.getLsbD_setWidth]
  by_cases h8 : i < 8
  · rw [if_pos h8]; simp [h8, h]
  · rw [if_neg h8, BitVec.getLsbD_of_ge b i (by omega)]; simp [h8, h]
theorem leNum_leBytes (n : BitVec 64) (w i : Nat) (h : i < 64) : (leNum (leBytes n w)).getLsbD i = (decide (i < 8 * w) && n.getLsbD i) := by
  induction w generalizing n i with
  | zero => simp [leBytes, leNum]
  | succ w ih =>
    rw [leBytes, leNum_bit _ _ _ h]
    by_cases h8 : i < 8
    · rw [if_pos h8]; simp [h8, show i < 8 * (w + 1) from by omega]
    · rw [if_neg h8, ih _ _ (by omega), BitVec.getLsbD_ushiftRight, show 8 + (i - 8) = i from by omega]
      congr 1
      rw [decide_eq_decide]; omega
theorem leNum_bytes (n : BitVec 64) : leNum (leBytes n 8) = n := by
  apply BitVec.eq_of_getLsbD_eq
  intro i hi
  rw [leNum_leBytes _ _ _ hi]
  simp [hi]
def numOf (v : Vl) : BitVec 64 := leNum (v.b.toList.take 8)
def fromN (n : BitVec 64) : Vl := mkVl (leBytes n 8)
def vplus (v : Vl) (by_ : BitVec 64) : Vl := fromN (numOf v + by_)
theorem fromN_ok (n : BitVec 64) : (fromN n).ok = true := mkVl_ok _ (by rw [leBytes_length]; omega)
theorem numOf_from (n : BitVec 64) : numOf (fromN n) = n := by
  unfold numOf fromN mkVl
  have h : (padded 16 (leBytes n 8)).toList.take 8 = leBytes n 8 := by
    have := cut_padded 16 (leBytes n 8) (by rw [leBytes_length]; omega)
    rw [leBytes_length] at this
    exact this
  rw [h, leNum_bytes]
theorem vplus_plus (v : Vl) (a b : BitVec 64) : vplus (vplus v a) b = vplus v (a + b) := by unfold vplus; rw [numOf_from, BitVec.add_assoc]
theorem vplus_from (a b : BitVec 64) : vplus (fromN a) b = fromN (a + b) := by unfold vplus; rw [numOf_from]
end Go.Proofs.Ytofcabhahdecdaa

namespace Go.Proofs.Ytofcabhahdecdaa
open Go Go.RowKit
set_option linter.unusedVariables false
set_option linter.unusedSimpArgs false
set_option maxRecDepth 100000

theorem wrap_u64' (n : Int) : IntKind.u64.wrap n = n % 18446744073709551616 := by simp [IntKind.wrap, IntKind.bits, IntKind.signed]
theorem D64_lt (x : BitVec 64) : D64 x < 18446744073709551616 := by rw [D64_def]; have := x.isLt; omega
theorem D64_shr8 (x : BitVec 64) : D64 x / (256 : Int) = D64 (x >>> 8) := by
  rw [D64_def, D64_def, BitVec.toNat_ushiftRight, Nat.shiftRight_eq_div_pow]; omega
theorem B8_of_D64 (x : BitVec 64) : IntKind.u8.wrap (D64 x) = B8 (x.setWidth 8) := by
  rw [IntKind.wrap_u8', D64_def, B8_def, BitVec.toNat_setWidth]; omega
theorem D64_and255 (x : BitVec 64) : bits .and .u64 (D64 x) 255 = D64 (x &&& 255#64) := by
  rw [D64_def, D64_def, BitVec.toNat_and]
  have h := u64_and_nat x.toNat 255 x.isLt (by omega)
  exact h
theorem D64_or (x y : BitVec 64) : bits .or .u64 (D64 x) (D64 y) = D64 (x ||| y) := by
  rw [D64_def, D64_def, D64_def, BitVec.toNat_or]
  exact u64_or_nat x.toNat y.toNat x.isLt y.isLt
theorem D64_of_B8 (x : BitVec 8) : IntKind.u64.wrap (B8 x) = D64 (x.setWidth 64) := by
  rw [wrap_u64', D64_def, B8_def, BitVec.toNat_setWidth]; have := x.isLt; omega
theorem D64_shl8 (x : BitVec 64) : IntKind.u64.wrap (D64 x * 256) = D64 (x <<< 8) := by
  rw [wrap_u64', D64_def, D64_def, BitVec.toNat_shiftLeft, Nat.shiftLeft_eq]; omega
theorem D64_add (x y : BitVec 64) : IntKind.u64.wrap (D64 x + D64 y) = D64 (x + y) := by
  rw [wrap_u64', D64_def, D64_def, D64_def, BitVec.toNat_add]; omega
attribute [go_sem] D64_shr8 B8_of_D64 D64_and255 D64_nonneg D64_lt D64_or D64_of_B8 D64_shl8 D64_add

theorem and255_byte (x : BitVec 64) : (x &&& 255#64).setWidth 8 = x.setWidth 8 := by
  apply BitVec.eq_of_getLsbD_eq
  intro i hi
  rw [BitVec.getLsbD_setWidth, BitVec.getLsbD_setWidth, BitVec.getLsbD_and]
  have : (255#64).getLsbD i = true := by
    have h : ∀ j, j < 8 → (255#64).getLsbD j = true := by decide
    exact h i hi
  rw [this]; simp
theorem and255_8 (x : BitVec 8) : x &&& 255#8 = x := by
  have : (255#8 : BitVec 8) = BitVec.allOnes 8 := rfl
  rw [this, BitVec.and_allOnes]
attribute [go_sem] and255_byte and255_8

set_option maxRecDepth 100000 in
set_option maxHeartbeats 2000000 in
/-- the document's Put -/
theorem refput_any (v : Value) (xs : List (BitVec 8)) (n : BitVec 64) (wd : Nat) (w : World) (h : Sl be 1 w v xs) (hx : xs.length ≤ 100000000000000) (h1 : 1 ≤ wd) (h8 : wd ≤ 8) :
    Calls Try.prog 53 #[v, .int .u64 (D64 n), .int .i64 (wd : Int)] w (Ret w fun u w' => Own w.heap.size 5 be 1 w' u (xs ++ leBytes n wd)) := by
  go_enter Try.func53, Try.ntmps53
  go_wp2_with (at_builtin; refine wpList_append_sl (by rfl) (.tmp 9) (.tmp 10) (by rfl) slT_bytes be_ok (by rfl) (by rfl) (Own.empty w.heap.size _ be 1 w (Nat.le_refl _)) (h.ext (by repeat (first | exact Ext.refl _ | assumption | refine Ext.drew ?_ | refine Ext.drewN ?_ _ | refine Ext.alloc ?_ _ | refine Ext.trans ?_ (by assumption)))) (by simp only [List.length_nil, maxLen]; omega) (by simp only [List.length_nil]; omega) (by simp) ?_; intro v1 W1 hown1 hg1 hat1; have he1 : Ext w W1 := ((Ext.refl w).alloc _).append hg1 (Own.empty w.heap.size _ be 1 w (Nat.le_refl _)) (Nat.le_refl _); simp only [List.nil_append] at hown1; clear hg1 hat1)
  go_loopw [1, 7, 8] (fun nn o i wr => ∃ k : Nat, k ≤ wd ∧ i = .int .i64 k ∧ nn = .int .u64 (D64 (n >>> (8 * k))) ∧ Own w.heap.size 5 be 1 wr o (xs ++ leBytes n k) ∧ Ext w wr) (fun _ _ i _ => wd - (intOf i).toNat)
  case atStart => exact ⟨0, by omega, rfl, rfl, by simpa [leBytes] using hown1, he1⟩
  case round =>
    obtain ⟨k, hk, rfl, rfl, hown, he⟩ := hrel
    have hl := leBytes_length n k
    have HL := Lib.hid hl
    clear hl
    by_cases hlt : k < wd
    · have HS := Lib.hid (leBytes_snoc n k)
      have HN := Lib.hid (show n >>> (8 * k) >>> 8 = n >>> (8 * (k + 1)) from by rw [← BitVec.shiftRight_add]; rfl)
      go_wp2_with (at_builtin; refine wpList_append_sl (by rfl) (.tmp 24) (.tmp 28) (by rfl) slT_bytes be_ok (by rfl) (by rfl) (hown.alloc _) (Sl.one be_ok wr 5 (0, 0) ((n >>> (8 * k)).setWidth 8)) (by simp only [List.length_append, HL.out, List.length_singleton, maxLen]; omega) (by simp only [List.length_append, HL.out, List.length_singleton]; omega) (by have := he.le; simp; omega) ?_; intro v2 W2 hown2 hg2 hat2; have he2 : Ext w W2 := (he.alloc _).append hg2 (hown.alloc _) (Nat.le_refl _); clear hg2 hat2)
      go_roundw
      case rel => exact ⟨k + 1, by omega, by go_num, by rw [HN.out], by rw [HS.out, ← List.append_assoc]; exact hown2, he2⟩
      case measure => simp [intOf]; omega
    · obtain rfl : k = wd := by omega
      go_wp2
      go_ret
      exact ⟨_, rfl, hown, he⟩

/-- so many bytes from a place on -/
def seg (xs : List (BitVec 8)) (at_ wd : Nat) : List (BitVec 8) := (xs.drop at_).take wd
theorem seg_step (xs : List (BitVec 8)) (at_ wd k : Nat) (h : at_ + wd ≤ xs.length) (hk : k < wd) : leNum ((seg xs at_ wd).drop k) = (leNum ((seg xs at_ wd).drop (k + 1)) <<< 8) ||| (xs[at_ + k]'(by omega)).setWidth 64 := by
  have hl : (seg xs at_ wd).length = wd := by unfold seg; simp; omega
  rw [List.drop_eq_getElem_cons (by omega), leNum]
  congr 2
  unfold seg; simp

set_option maxRecDepth 100000 in
set_option maxHeartbeats 4000000 in
/-- the document's Num -/
theorem refnum_any (v : Value) (xs : List (BitVec 8)) (at_ wd : Nat) (w : World) (h : Sl be 1 w v xs) (h1 : 1 ≤ wd) (h8 : wd ≤ 8) (ha : at_ + wd ≤ xs.length) :
    Calls Try.prog 59 #[v, .int .i64 (at_ : Int), .int .i64 (wd : Int)] w fun e w' => e = .returned (.tuple #[.int .u64 (D64 (leNum (seg xs at_ wd))), .bool true]) ∧ w' = w := by
  obtain ⟨A, cap, rfl, h0, hc, hA⟩ := h
  obtain ⟨b, off, rfl, hb, hr⟩ := hA (by omega)
  unfold maxLen at hc
  have hl : (seg xs at_ wd).length = wd := by unfold seg; simp; omega
  have i1 : ¬ (wd : Int) < 1 := by omega
  have i2 : ¬ 8 < (wd : Int) := by omega
  have i3 : ¬ (at_ : Int) < 0 := by omega
  have i4 : ¬ (xs.length : Int) - wd < at_ := by omega
  have HR := Lib.hid hr
  have HL := Lib.hid hl
  clear hr hA hl
  have HZ := Lib.hid (show (0 : Int) = D64 0#64 from D64_zero.symm)
  go_enter Try.func59, Try.ntmps59
  go_wp2
  go_loop [8, 9] (fun nn i => ∃ k : Nat, k ≤ wd ∧ i = .int .i64 ((k : Int) - 1) ∧ nn = .int .u64 (D64 (leNum ((seg xs at_ wd).drop k)))) (fun _ i => ((intOf i) + 1).toNat)
  case atStart => exact ⟨wd, by omega, rfl, by rw [List.drop_eq_nil_of_le (by rw [HL.out]; omega)]; simp only [leNum]; rw [D64_zero]⟩
  case round =>
    obtain ⟨k, hk, rfl, rfl⟩ := hrel
    by_cases hlt : 0 < k
    · obtain ⟨j, rfl⟩ : ∃ j, k = j + 1 := ⟨k - 1, by omega⟩
      have hc1 := SlAt.byte' HR.out (i := at_ + j) (by omega)
      have HS := Lib.hid (seg_step xs at_ wd j ha (by omega))
      have e1 : ((j + 1 : Nat) : Int) - 1 = (j : Int) := by omega
      rw [e1]
      have i5 : (0 : Int) ≤ (at_ : Int) + j := by omega
      have i6 : (at_ : Int) + j < xs.length := by omega
      have e2 : off + ((at_ : Int) + j).toNat = off + (at_ + j) := by omega
      have i7 : (0 : Int) ≤ (j : Int) := by omega
      clear e1
      go_wp2
      go_round
      case rel => exact ⟨j, by omega, by go_num, by rw [HS.out]⟩
      case measure => simp [intOf]
    · obtain rfl : k = 0 := by omega
      go_wp2
      exact bodyPost_ret (results_2 rfl res_tmp res_tmp) rfl ⟨rfl, rfl⟩
end Go.Proofs.Ytofcabhahdecdaa

namespace Go.Proofs.Ytofcabhahdecdaa
open Go Go.RowKit
set_option linter.unusedVariables false
set_option linter.unusedSimpArgs false
set_option maxRecDepth 100000

theorem over_take {m : Nat} (xs : List (BitVec 8)) (k : Nat) (hk : k < xs.length) : (over (Vector.replicate m 0#8) (xs.take k)).setIfInBounds k xs[k] = over (Vector.replicate m 0#8) (xs.take (k + 1)) := by
  apply Vector.ext
  intro i hi
  rw [over_get, Vector.getElem_setIfInBounds, over_get, List.getElem?_take, List.getElem?_take]
  by_cases h1 : k = i
  · subst h1; simp [hk]
  · by_cases h2 : i < k
    · simp [h1, h2, show i < k + 1 from by omega]
    · simp [h1, h2, show ¬ i < k + 1 from by omega]
theorem over_nil {m : Nat} (b : Vector (BitVec 8) m) : over b [] = b := by
  apply Vector.ext
  intro i hi
  rw [over_get]; simp
theorem bytes_at (xs : List (BitVec 8)) (k : Nat) (h : k < (bytesOf xs).size) : (((bytesOf xs)[k]'h).toNat : Int) = B8 (xs[k]'(by rw [bytesOf_size] at h; exact h)) := by
  have hk : k < xs.length := by rw [bytesOf_size] at h; exact h
  have h0 : (bytesOf xs).data[k]? = some (UInt8.ofBitVec (xs[k]'hk)) := by
    have e : (bytesOf xs).data = (xs.map UInt8.ofBitVec).toArray := by rw [bytesOf_def]
    rw [e]; simp [hk]
  rw [B8_def]
  congr 1
  have h2 : (bytesOf xs)[k]'h = (bytesOf xs).data[k]'h := rfl
  rw [h2, (Array.getElem?_eq_some_iff.1 h0).2]
  rfl
attribute [go_sem] bytes_at
set_option maxRecDepth 100000 in
set_option maxHeartbeats 1000000 in
/-- the document's Of -/
theorem refvlof_any (xs : List (BitVec 8)) (w : World) : Calls Try.prog 42 #[.string (bytesOf xs)] w (Is w (.tuple (if xs.length ≤ 16 then #[.agg (mkVl xs).arr, .int .i64 0] else #[.agg Vl.zero.arr, .int .i64 2]))) := by
  have hsz := bytesOf_size xs
  by_cases h16 : 16 < xs.length
  · have h16' : (16 : Int) < xs.length := by omega
    rw [if_neg (by omega)]
    go_enter Try.func42, Try.ntmps42
    go_wp2
    exact bodyPost_ret (results_2 rfl (res_cell Try.underlying41 rfl Vl.size' rfl (by simp [go_sem])) res_tmp) rfl ⟨rfl, (by repeat (first | exact Ext.refl _ | assumption | refine Ext.drew ?_ | refine Ext.drewN ?_ _ | refine Ext.alloc ?_ _ | refine Ext.trans ?_ (by assumption)))⟩
  · have h16' : ¬ (16 : Int) < xs.length := by omega
    rw [if_pos (by omega)]
    go_enter Try.func42, Try.ntmps42
    go_wp2
    go_loopw [5] (fun i wr => ∃ k : Nat, k ≤ xs.length ∧ i = .int .i64 k ∧ wr = (w.alloc (.cells Vl.zero.arr 41)).alloc (.cells (Vl.mk xs.length (over (Vector.replicate 16 0#8) (xs.take k))).arr 41)) (fun i _ => xs.length - (intOf i).toNat)
    case atStart => exact ⟨0, by omega, rfl, by rw [List.take_zero, over_nil]⟩
    case round =>
      obtain ⟨k, hk, rfl, rfl⟩ := hrel
      by_cases hlt : k < xs.length
      · have hk16 : k < 16 := by omega
        have HO := Lib.hid (over_take (m := 16) xs k hlt)
        go_wp2
        go_roundw
        case rel => exact ⟨k + 1, by omega, by go_num, by rw [HO.out]⟩
        case measure => simp [intOf]; omega
      · obtain rfl : k = xs.length := by omega
        go_wp2
        exact bodyPost_ret (results_2 rfl (res_cell (cs := (mkVl xs).arr) Try.underlying41 rfl Vl.size' rfl (by simp [go_sem, over_zero, mkVl])) res_tmp) rfl ⟨rfl, (by repeat (first | exact Ext.refl _ | assumption | refine Ext.drew ?_ | refine Ext.drewN ?_ _ | refine Ext.alloc ?_ _ | refine Ext.trans ?_ (by assumption)))⟩
set_option maxRecDepth 100000 in
set_option maxHeartbeats 1000000 in
/-- the document's Of -/
theorem refkeyof_any (xs : List (BitVec 8)) (w : World) : Calls Try.prog 38 #[.string (bytesOf xs)] w (Is w (.tuple (if xs.length ≤ 8 then #[.agg (mkKey xs).arr, .int .i64 0] else #[.agg Key.zero.arr, .int .i64 2]))) := by
  have hsz := bytesOf_size xs
  by_cases h16 : 8 < xs.length
  · have h16' : (8 : Int) < xs.length := by omega
    rw [if_neg (by omega)]
    go_enter Try.func38, Try.ntmps38
    go_wp2
    exact bodyPost_ret (results_2 rfl (res_cell Try.underlying52 rfl Key.size' rfl (by simp [go_sem])) res_tmp) rfl ⟨rfl, (by repeat (first | exact Ext.refl _ | assumption | refine Ext.drew ?_ | refine Ext.drewN ?_ _ | refine Ext.alloc ?_ _ | refine Ext.trans ?_ (by assumption)))⟩
  · have h16' : ¬ (8 : Int) < xs.length := by omega
    rw [if_pos (by omega)]
    go_enter Try.func38, Try.ntmps38
    go_wp2
    go_loopw [5] (fun i wr => ∃ k : Nat, k ≤ xs.length ∧ i = .int .i64 k ∧ wr = (w.alloc (.cells Key.zero.arr 52)).alloc (.cells (Key.mk xs.length (over (Vector.replicate 8 0#8) (xs.take k))).arr 52)) (fun i _ => xs.length - (intOf i).toNat)
    case atStart => exact ⟨0, by omega, rfl, by rw [List.take_zero, over_nil]⟩
    case round =>
      obtain ⟨k, hk, rfl, rfl⟩ := hrel
      by_cases hlt : k < xs.length
      · have hk16 : k < 8 := by omega
        have HO := Lib.hid (over_take (m := 8) xs k hlt)
        go_wp2
        go_roundw
        case rel => exact ⟨k + 1, by omega, by go_num, by rw [HO.out]⟩
        case measure => simp [intOf]; omega
      · obtain rfl : k = xs.length := by omega
        go_wp2
        exact bodyPost_ret (results_2 rfl (res_cell (cs := (mkKey xs).arr) Try.underlying52 rfl Key.size' rfl (by simp [go_sem, over_zero, mkKey])) res_tmp) rfl ⟨rfl, (by repeat (first | exact Ext.refl _ | assumption | refine Ext.drew ?_ | refine Ext.drewN ?_ _ | refine Ext.alloc ?_ _ | refine Ext.trans ?_ (by assumption)))⟩

/-! ### numbers of values -/
set_option maxRecDepth 100000 in
set_option maxHeartbeats 1000000 in
/-- the document's Number -/
theorem refnumber_any (v : Vl) (w : World) : Calls Try.prog 54 #[.agg v.arr] w (Is w (.int .u64 (D64 (numOf v)))) := by
  have hs := sl_of_bArr (g := w.heap.size) (o := 1) (w := w.alloc (.cells v.arr 41)) (b := v.b) (by rw [row_alloc_at _ _ _ _ _ _ _ rfl]; exact Vl.row_b v) 8 16 (by omega) (by omega) (by unfold maxLen; omega)
  have HS := Lib.hid hs
  clear hs
  go_enter Try.func54, Try.ntmps54
  go_wp2_with fail
  refine (refnum_any _ _ 0 8 _ HS.out (by omega) (by omega) (by simp)).mono ?_
  rintro e w1 ⟨rfl, rfl⟩
  go_wp2
  go_ret
  exact ⟨by simp [numOf, seg, List.take_take], (by repeat (first | exact Ext.refl _ | assumption | refine Ext.drew ?_ | refine Ext.drewN ?_ _ | refine Ext.alloc ?_ _ | refine Ext.trans ?_ (by assumption)))⟩

set_option maxRecDepth 100000 in
set_option maxHeartbeats 1000000 in
/-- the document's From -/
theorem reffrom_any (n : BitVec 64) (w : World) : Calls Try.prog 49 #[.int .u64 (D64 n)] w (Is w (.agg (fromN n).arr)) := by
  go_enter Try.func49, Try.ntmps49
  go_wp2_with fail
  refine (refput_any _ [] _ 8 _ (Sl.nil _ _ _) (by simp) (by omega) (by omega)).mono ?_
  rintro e w1 ⟨u, rfl, hown, he1⟩
  have hl := leBytes_length n 8
  rw [List.nil_append] at hown
  have hle := he1.le
  obtain ⟨g, cap, rfl, hbg, hg1, hc1, hc2, hcc⟩ := hown.open1 be_ok (by rw [hl]; omega)
  have hbox : Box w1 (w.heap.size + 1) (Vl.mk 8 (Vector.replicate 16 0#8)).arr 41 := (by repeat (first | with_reducible assumption | with_reducible exact Box.new (by simp) | with_reducible refine Box.past ?_ _ | with_reducible refine Box.drew ?_ | with_reducible refine Box.drewN ?_ _ | refine Box.ext ?_ (by with_reducible assumption)))
  have hbox2 : Box w1 w.heap.size Vl.zero.arr 41 := (by repeat (first | with_reducible assumption | with_reducible exact Box.new (by simp) | with_reducible refine Box.past ?_ _ | with_reducible refine Box.drew ?_ | with_reducible refine Box.drewN ?_ _ | refine Box.ext ?_ (by with_reducible assumption)))
  have hgne : g ≠ w.heap.size + 1 := by simp at hbg; omega
  have HB := Lib.hid hbg
  have HC := Lib.hid hcc
  have HL := Lib.hid hl
  clear hown hbg hcc hle hl
  go_wp2
  go_loopw [5] (fun i wr => ∃ k : Nat, k ≤ 8 ∧ i = .int .i64 k ∧ Box wr (w.heap.size + 1) (Vl.mk 8 (over (Vector.replicate 16 0#8) ((leBytes n 8).take k))).arr 41 ∧ w1.grownBy wr (some (w.heap.size + 1))) (fun i _ => 8 - (intOf i).toNat)
  case atStart => exact ⟨0, by omega, rfl, by rw [List.take_zero, over_nil]; exact hbox, World.grownBy.refl _ _⟩
  case round =>
    obtain ⟨k, hk, rfl, hb, hgr⟩ := hrel
    have HBX := Lib.hid hb
    have hg2 : g < wr.heap.size := Nat.lt_of_lt_of_le hg1 hgr.size
    have hw2 : w.heap.size + 1 < wr.heap.size := hb.lt
    clear hb
    by_cases hlt : k < 8
    · have hlt' : (k : Int) < 8 := by omega
      have hkl : k < (leBytes n 8).length := by rw [HL.out]; exact hlt
      have hc := (HC.out k hkl _ rfl).1
      have hcw : wr.cell? ⟨g, k, none⟩ = some (.int .u8 (B8 (leBytes n 8)[k])) := hgr.cell hc (by simp; omega)
      have hcv : wr.cell? ⟨w.heap.size + 1, 1 + k, none⟩ = _ := HBX.out.cell (1 + k) (Vl.arr_b _ k (by omega))
      have hfr := HBX.out.frozen (1 + k)
      have HO := Lib.hid (over_take (m := 16) (leBytes n 8) k hkl)
      clear hc
      generalize hx : (leBytes n 8)[k] = x at *
      have HX := Lib.hid hx
      clear hx
      have HL2 := Lib.hid (show (leBytes n 8).length = 8 from HL.out)
      rw [HL.out] at hc1
      have hcap : (k : Int) < cap := by omega
      go_wp2
      go_roundw
      case rel =>
        have hst := HBX.out.set (1 + k) (.int .u8 (B8 x))
        rw [Vl.setb_b _ k (by omega)] at hst
        exact ⟨k + 1, by omega, by go_num, by rw [← HO.out]; exact hst, gset hgr _ _⟩
      case measure => simp [intOf]; omega
    · obtain rfl : k = 8 := by omega
      have hrow := (HBX.out.row 0 17).trans (Vl.row _)
      have hbx2 := hbox2.grown hgr (by simp)
      have hrow2 := (hbx2.row 0 17).trans (Vl.row _)
      have hfree2 := hbx2.free
      have hf : (Vl.mk 8 (over (Vector.replicate 16 0#8) ((leBytes n 8).take 8))).arr = (fromN n).arr := by
        have hl := HL.out
        unfold fromN mkVl
        rw [List.take_of_length_le (by omega), over_zero, hl]; rfl
      have hew : Ext w wr := (show Ext w w1 from (by repeat (first | exact Ext.refl _ | assumption | refine Ext.drew ?_ | refine Ext.drewN ?_ _ | refine Ext.alloc ?_ _ | refine Ext.trans ?_ (by assumption)))).grown hgr (fun k hk => by injection hk with hk; omega)
      rw [hf] at hrow
      clear hf
      go_wp2
      exact bodyPost_ret (results_1 rfl (res_cell (cs := (fromN n).arr) Try.underlying41 rfl Vl.size' rfl (by rw [(hbx2.put 0 _).row, Vl.put, Vl.row]))) rfl ⟨rfl, hew.putRow (Nat.le_refl _)⟩

set_option maxRecDepth 100000 in
set_option maxHeartbeats 1000000 in
/-- the document's Plus -/
theorem refplus_any (v : Vl) (n : BitVec 64) (w : World) : Calls Try.prog 50 #[.agg v.arr, .int .u64 (D64 n)] w (Is w (.agg (vplus v n).arr)) := by
  have hbx : Box ((w.alloc (.cells v.arr 41)).alloc (.cells Vl.zero.arr 41)) (w.heap.size + 1) Vl.zero.arr 41 := (by repeat (first | with_reducible assumption | with_reducible exact Box.new (by simp) | with_reducible refine Box.past ?_ _ | with_reducible refine Box.drew ?_ | with_reducible refine Box.drewN ?_ _ | refine Box.ext ?_ (by with_reducible assumption)))
  have H := Lib.hid hbx
  clear hbx
  go_enter Try.func50, Try.ntmps50
  go_wp2_with fail
  refine (refnumber_any _ _).mono ?_
  rintro e w1 ⟨rfl, he1⟩
  go_wp2_with fail
  refine (reffrom_any _ _).mono ?_
  rintro e w2 ⟨rfl, he2⟩
  have hb2 := H.out.ext (he1.trans he2)
  have hrow := (hb2.row 0 17).trans (Vl.row _)
  have hfree := hb2.free
  go_wp2
  exact bodyPost_ret (results_1 rfl (res_cell (cs := (vplus v n).arr) Try.underlying41 rfl Vl.size' rfl (by rw [(hb2.put 0 _).row, Vl.put]; exact Vl.row _))) rfl ⟨rfl, Ext.putRow (show Ext w w2 from (by repeat (first | exact Ext.refl _ | assumption | refine Ext.drew ?_ | refine Ext.drewN ?_ _ | refine Ext.alloc ?_ _ | refine Ext.trans ?_ (by assumption)))) (by omega)⟩
end Go.Proofs.Ytofcabhahdecdaa

namespace Go.Proofs.Ytofcabhahdecdaa
open Go Go.RowKit
set_option linter.unusedVariables false
set_option linter.unusedSimpArgs false
set_option maxRecDepth 100000

set_option maxRecDepth 100000 in
theorem may_any (n : Int) (w : World) : Calls Try.prog 65 #[.int .i64 n] w fun e w' => e = .returned (.bool (decide (1 ≤ n ∧ n ≤ 8))) ∧ w' = w := by
  by_cases h1 : 1 ≤ n
  · by_cases h8 : n ≤ 8
    · go_enter Try.func65, Try.ntmps65
      go_wp2
      go_ret
      exact ⟨by simp [h1, h8], rfl⟩
    · have h8' : 8 < n := by omega
      go_enter Try.func65, Try.ntmps65
      go_wp2
      go_ret
      exact ⟨by simp [h1, h8], rfl⟩
  · have h1' : n < 1 := by omega
    go_enter Try.func65, Try.ntmps65
    go_wp2
    go_ret
    exact ⟨by simp [h1]; omega, rfl⟩

set_option maxRecDepth 100000 in
set_option maxHeartbeats 2000000 in
/-- the program's Put -/
theorem put_any (v : Value) (xs : List (BitVec 8)) (n : BitVec 64) (wd : Nat) (w : World) (h : Sl be 1 w v xs) (hx : xs.length ≤ 100000000000000) (h1 : 1 ≤ wd) (h8 : wd ≤ 8) :
    Calls Try.prog 62 #[v, .int .u64 (D64 n), .int .i64 (wd : Int)] w (Ret w fun u w' => Own w.heap.size 5 be 1 w' u (xs ++ leBytes n wd)) := by
  have hmay : decide (1 ≤ (wd : Int) ∧ (wd : Int) ≤ 8) = true := decide_eq_true ⟨by omega, by omega⟩
  go_enter Try.func62, Try.ntmps62
  go_wp2_with (first
    | (at_builtin; refine wpList_append_sl (by rfl) (.const (.slice none 0 0)) (.tmp 8) (by rfl) slT_bytes be_ok (by rfl) (by rfl) (Own.nil w.heap.size 5 be 1 w) h (by simp only [List.length_nil, maxLen]; omega) (by simp only [List.length_nil]; omega) (by simp) ?_; intro v1 W1 hown1 hg1 hat1; have he1 : Ext w W1 := (Ext.refl w).append hg1 (Own.nil w.heap.size 5 be 1 w) (Nat.le_refl _); simp only [List.nil_append] at hown1; clear hg1 hat1)
    | (go_at_call 65; refine (may_any _ _).mono ?_; rintro e w1 ⟨rfl, rfl⟩))
  clear hmay
  go_loopw [1, 7, 15] (fun nn o i wr => ∃ k : Nat, k ≤ wd ∧ i = .int .i64 k ∧ nn = .int .u64 (D64 (n >>> (8 * k))) ∧ Own w.heap.size 5 be 1 wr o (xs ++ leBytes n k) ∧ Ext w wr) (fun _ _ i _ => wd - (intOf i).toNat)
  case atStart => exact ⟨0, by omega, rfl, rfl, by simpa [leBytes] using hown1, he1⟩
  case round =>
    obtain ⟨k, hk, rfl, rfl, hown, he⟩ := hrel
    have hl := leBytes_length n k
    have HL := Lib.hid hl
    clear hl
    by_cases hlt : k < wd
    · have HS := Lib.hid (leBytes_snoc n k)
      have HN := Lib.hid (show n >>> (8 * k) >>> 8 = n >>> (8 * (k + 1)) from by rw [← BitVec.shiftRight_add]; rfl)
      go_wp2_with (at_builtin; refine wpList_append_sl (by rfl) (.tmp 17) (.tmp 20) (by rfl) slT_bytes be_ok (by rfl) (by rfl) (hown.alloc _) (Sl.one be_ok wr 5 (0, 0) ((n >>> (8 * k)).setWidth 8)) (by simp only [List.length_append, HL.out, List.length_singleton, maxLen]; omega) (by simp only [List.length_append, HL.out, List.length_singleton]; omega) (by have := he.le; simp; omega) ?_; intro v2 W2 hown2 hg2 hat2; have he2 : Ext w W2 := (he.alloc _).append hg2 (hown.alloc _) (Nat.le_refl _); clear hg2 hat2)
      go_roundw
      case rel => exact ⟨k + 1, by omega, by go_num, by rw [HN.out], by rw [HS.out, ← List.append_assoc]; exact hown2, he2⟩
      case measure => simp [intOf]; omega
    · obtain rfl : k = wd := by omega
      go_wp2
      go_ret
      exact ⟨_, rfl, hown, he⟩

set_option maxRecDepth 100000 in
set_option maxHeartbeats 4000000 in
/-- the program's Num -/
theorem num_any (v : Value) (xs : List (BitVec 8)) (at_ wd : Nat) (w : World) (h : Sl be 1 w v xs) (h1 : 1 ≤ wd) (h8 : wd ≤ 8) (ha : at_ + wd ≤ xs.length) :
    Calls Try.prog 63 #[v, .int .i64 (at_ : Int), .int .i64 (wd : Int)] w fun e w' => e = .returned (.tuple #[.int .u64 (D64 (leNum (seg xs at_ wd))), .bool true]) ∧ w' = w := by
  obtain ⟨A, cap, rfl, h0, hc, hA⟩ := h
  obtain ⟨b, off, rfl, hb, hr⟩ := hA (by omega)
  unfold maxLen at hc
  have hl : (seg xs at_ wd).length = wd := by unfold seg; simp; omega
  have hmay : decide (1 ≤ (wd : Int) ∧ (wd : Int) ≤ 8) = true := decide_eq_true ⟨by omega, by omega⟩
  have i3 : ¬ (at_ : Int) < 0 := by omega
  have i4 : ¬ (xs.length : Int) - wd < at_ := by omega
  have HR := Lib.hid hr
  have HL := Lib.hid hl
  clear hr hA hl
  go_enter Try.func63, Try.ntmps63
  go_wp2_with (go_at_call 65; refine (may_any _ _).mono ?_; rintro e w1 ⟨rfl, rfl⟩)
  clear hmay
  go_loop [8, 9] (fun nn i => ∃ k : Nat, k ≤ wd ∧ i = .int .i64 ((k : Int) - 1) ∧ nn = .int .u64 (D64 (leNum ((seg xs at_ wd).drop k)))) (fun _ i => ((intOf i) + 1).toNat)
  case atStart => exact ⟨wd, by omega, rfl, by rw [List.drop_eq_nil_of_le (by rw [HL.out]; omega)]; simp only [leNum]; rw [D64_zero]⟩
  case round =>
    obtain ⟨k, hk, rfl, rfl⟩ := hrel
    by_cases hlt : 0 < k
    · obtain ⟨j, rfl⟩ : ∃ j, k = j + 1 := ⟨k - 1, by omega⟩
      have hc1 := SlAt.byte' HR.out (i := at_ + j) (by omega)
      have HS := Lib.hid (seg_step xs at_ wd j ha (by omega))
      have e1 : ((j + 1 : Nat) : Int) - 1 = (j : Int) := by omega
      rw [e1]
      have i5 : (0 : Int) ≤ (at_ : Int) + j := by omega
      have i6 : (at_ : Int) + j < xs.length := by omega
      have e2 : off + ((at_ : Int) + j).toNat = off + (at_ + j) := by omega
      have i7 : (0 : Int) ≤ (j : Int) := by omega
      clear e1
      go_wp2
      go_round
      case rel => exact ⟨j, by omega, by go_num, by rw [HS.out]⟩
      case measure => simp [intOf]
    · obtain rfl : k = 0 := by omega
      go_wp2
      exact bodyPost_ret (results_2 rfl res_tmp res_tmp) rfl ⟨rfl, rfl⟩

set_option maxRecDepth 100000 in
set_option maxHeartbeats 1000000 in
theorem number_any (v : Vl) (w : World) : Calls Try.prog 58 #[.agg v.arr] w (Is w (.int .u64 (D64 (numOf v)))) := by
  have hs := sl_of_bArr (g := w.heap.size) (o := 1) (w := w.alloc (.cells v.arr 41)) (b := v.b) (by rw [row_alloc_at _ _ _ _ _ _ _ rfl]; exact Vl.row_b v) 16 16 (by omega) (by omega) (by unfold maxLen; omega)
  have HS := Lib.hid hs
  clear hs
  go_enter Try.func58, Try.ntmps58
  go_wp2_with fail
  refine (num_any _ _ 0 8 _ HS.out (by omega) (by omega) (by simp)).mono ?_
  rintro e w1 ⟨rfl, rfl⟩
  go_wp2
  go_ret
  exact ⟨by simp [numOf, seg, List.take_take], (by repeat (first | exact Ext.refl _ | assumption | refine Ext.drew ?_ | refine Ext.drewN ?_ _ | refine Ext.alloc ?_ _ | refine Ext.trans ?_ (by assumption)))⟩

set_option maxRecDepth 100000 in
set_option maxHeartbeats 1000000 in
theorem vlof_any (v : Value) (xs : List (BitVec 8)) (w : World) (h : Sl be 1 w v xs) (h16 : xs.length ≤ 16) : Calls Try.prog 47 #[v] w (Is w (.agg (mkVl xs).arr)) := by
  obtain ⟨A, cap, rfl, h0, hc, hA⟩ := h
  unfold maxLen at hc
  by_cases hpos : 0 < xs.length
  · obtain ⟨b, off, rfl, hb, hr⟩ := SlAt.row be_ok hA hpos
    rw [Nat.mul_one] at hr
    have hmin : min xs.length 16 = xs.length := by omega
    have hmin2 : min 16 xs.length = xs.length := by omega
    go_enter Try.func47, Try.ntmps47
    go_wp2
    exact bodyPost_ret (results_1 rfl (res_cell (cs := (mkVl xs).arr) Try.underlying41 rfl Vl.size' rfl (by simp [go_sem, over_zero, mkVl]))) rfl ⟨rfl, (by repeat (first | exact Ext.refl _ | assumption | refine Ext.drew ?_ | refine Ext.drewN ?_ _ | refine Ext.alloc ?_ _ | refine Ext.trans ?_ (by assumption)))⟩
  · obtain rfl : xs = [] := List.eq_nil_of_length_eq_zero (by omega)
    go_enter Try.func47, Try.ntmps47
    go_wp2
    exact bodyPost_ret (results_1 rfl (res_cell (cs := (mkVl []).arr) Try.underlying41 rfl Vl.size' rfl (by rw [row_alloc_past _ _ _ _ _ (by simp), row_alloc_at _ _ _ _ _ _ _ rfl]; rw [show mkVl [] = Vl.zero from rfl]; exact Vl.row _))) rfl ⟨rfl, (by repeat (first | exact Ext.refl _ | assumption | refine Ext.drew ?_ | refine Ext.drewN ?_ _ | refine Ext.alloc ?_ _ | refine Ext.trans ?_ (by assumption)))⟩

set_option maxRecDepth 100000 in
set_option maxHeartbeats 1000000 in
theorem from_any (n : BitVec 64) (w : World) : Calls Try.prog 57 #[.int .u64 (D64 n)] w (Is w (.agg (fromN n).arr)) := by
  have hbx : Box (w.alloc (.cells Vl.zero.arr 41)) w.heap.size Vl.zero.arr 41 := (by repeat (first | with_reducible assumption | with_reducible exact Box.new (by simp) | with_reducible refine Box.past ?_ _ | with_reducible refine Box.drew ?_ | with_reducible refine Box.drewN ?_ _ | refine Box.ext ?_ (by with_reducible assumption)))
  have H := Lib.hid hbx
  clear hbx
  have hl := Lib.hid (leBytes_length n 8)
  go_enter Try.func57, Try.ntmps57
  go_wp2_with fail
  refine (put_any _ [] _ 8 _ (Sl.nil _ _ _) (by simp) (by omega) (by omega)).mono ?_
  rintro e w1 ⟨u, rfl, hown, he1⟩
  rw [List.nil_append] at hown
  have hs := Lib.hid (hown.sl be_ok)
  clear hown
  go_wp2_with fail
  refine (vlof_any _ _ _ hs.out (by rw [hl.out]; omega)).mono ?_
  rintro e w2 ⟨rfl, he2⟩
  have hb2 := H.out.ext (he1.trans he2)
  have hrow := (hb2.row 0 17).trans (Vl.row _)
  have hfree := hb2.free
  go_wp2
  exact bodyPost_ret (results_1 rfl (res_cell (cs := (fromN n).arr) Try.underlying41 rfl Vl.size' rfl (by rw [(hb2.put 0 _).row, Vl.put]; exact Vl.row _))) rfl ⟨rfl, Ext.putRow (show Ext w w2 from (by repeat (first | exact Ext.refl _ | assumption | refine Ext.drew ?_ | refine Ext.drewN ?_ _ | refine Ext.alloc ?_ _ | refine Ext.trans ?_ (by assumption)))) (by omega)⟩

set_option maxRecDepth 100000 in
set_option maxHeartbeats 1000000 in
theorem plus_any (v : Vl) (n : BitVec 64) (w : World) : Calls Try.prog 52 #[.agg v.arr, .int .u64 (D64 n)] w (Is w (.agg (vplus v n).arr)) := by
  have hbx : Box ((w.alloc (.cells v.arr 41)).alloc (.cells Vl.zero.arr 41)) (w.heap.size + 1) Vl.zero.arr 41 := (by repeat (first | with_reducible assumption | with_reducible exact Box.new (by simp) | with_reducible refine Box.past ?_ _ | with_reducible refine Box.drew ?_ | with_reducible refine Box.drewN ?_ _ | refine Box.ext ?_ (by with_reducible assumption)))
  have H := Lib.hid hbx
  clear hbx
  go_enter Try.func52, Try.ntmps52
  go_wp2_with fail
  refine (number_any _ _).mono ?_
  rintro e w1 ⟨rfl, he1⟩
  go_wp2_with fail
  refine (from_any _ _).mono ?_
  rintro e w2 ⟨rfl, he2⟩
  have hb2 := H.out.ext (he1.trans he2)
  have hrow := (hb2.row 0 17).trans (Vl.row _)
  have hfree := hb2.free
  go_wp2
  exact bodyPost_ret (results_1 rfl (res_cell (cs := (vplus v n).arr) Try.underlying41 rfl Vl.size' rfl (by rw [(hb2.put 0 _).row, Vl.put]; exact Vl.row _))) rfl ⟨rfl, Ext.putRow (show Ext w w2 from (by repeat (first | exact Ext.refl _ | assumption | refine Ext.drew ?_ | refine Ext.drewN ?_ _ | refine Ext.alloc ?_ _ | refine Ext.trans ?_ (by assumption)))) (by omega)⟩

theorem Vl.ok_false (k : Vl) : k.ok = false ↔ k.n < 0 ∨ 16 < k.n ∨ trunc k.b k.n.toNat ≠ k.b := by
  rw [← Bool.not_eq_true, Vl.ok_iff]
  constructor
  · intro h
    by_cases h1 : k.n < 0
    · exact .inl h1
    · by_cases h2 : 16 < k.n
      · exact .inr (.inl h2)
      · exact .inr (.inr fun h3 => h ⟨by omega, by omega, h3⟩)
  · rintro (h | h | h) ⟨h1, h2, h3⟩
    · omega
    · omega
    · exact h h3
theorem mkVl_take (b : Vector (BitVec 8) 16) (n : Nat) (h : n ≤ 16) : mkVl (b.toList.take n) = ⟨n, trunc b n⟩ := by
  unfold mkVl
  rw [← over_zero, over_zero_cut]
  congr 1
  simp; omega

set_option maxHeartbeats 1000000 in
/-- the document's Check -/
theorem refvlcheck_any (k : Vl) (w : World) : Calls Try.prog 39 #[.agg k.arr] w (Is w (.bool k.ok)) := by
  by_cases h0 : k.n < 0
  · have hok : k.ok = false := (Vl.ok_false k).2 (.inl h0)
    go_enter Try.func39, Try.ntmps39
    go_wp2
    go_ret
    exact ⟨by simp [hok], (by repeat (first | exact Ext.refl _ | assumption | refine Ext.drew ?_ | refine Ext.drewN ?_ _ | refine Ext.alloc ?_ _ | refine Ext.trans ?_ (by assumption)))⟩
  have h0' : 0 ≤ k.n := by omega
  by_cases h8 : 16 < k.n
  · have hok : k.ok = false := (Vl.ok_false k).2 (.inr (.inl h8))
    go_enter Try.func39, Try.ntmps39
    go_wp2
    go_ret
    exact ⟨by simp [hok], (by repeat (first | exact Ext.refl _ | assumption | refine Ext.drew ?_ | refine Ext.drewN ?_ _ | refine Ext.alloc ?_ _ | refine Ext.trans ?_ (by assumption)))⟩
  have h8' : k.n ≤ 16 := by omega
  obtain ⟨n, hn⟩ : ∃ n : Nat, k.n = (n : Int) := ⟨k.n.toNat, by omega⟩
  have H0 := Lib.hid hn
  have hn8 : n ≤ 16 := by omega
  clear hn
  go_enter Try.func39, Try.ntmps39
  go_wp2
  go_loop [3] (fun x => ∃ i : Nat, n ≤ i ∧ i ≤ 16 ∧ x = .int .i64 i ∧ ∀ j (h : j < 16), n ≤ j → j < i → k.b[j] = 0#8) (fun x => 16 - (intOf x).toNat)
  case atStart => exact ⟨n, by omega, by omega, by rw [H0.out], fun j _ h1 h2 => absurd h1 (by omega)⟩
  case round =>
    obtain ⟨i, h1, h2, rfl, hz⟩ := hrel
    have HZ := Lib.hid hz
    clear hz
    have H0' := H0.out
    have hni : k.n ≤ i := by omega
    clear H0'
    by_cases hlt : i < 16
    · by_cases hb : k.b[i] = 0#8
      · go_wp2
        go_round
        case rel =>
          refine ⟨i + 1, by omega, by omega, by go_num, fun j hj h3 h4 => ?_⟩
          by_cases h5 : j = i
          · subst h5; exact hb
          · exact HZ.out j hj h3 (by omega)
        case measure => simp [intOf]; omega
      · have hok : k.ok = false := (Vl.ok_false k).2 (.inr (.inr fun h => hb ((trunc_iff _ _).1 h i hlt (by omega))))
        go_wp2
        go_ret
        exact ⟨by simp [hok], (by repeat (first | exact Ext.refl _ | assumption | refine Ext.drew ?_ | refine Ext.drewN ?_ _ | refine Ext.alloc ?_ _ | refine Ext.trans ?_ (by assumption)))⟩
    · obtain rfl : i = 16 := by omega
      have hok : k.ok = true := (Vl.ok_iff k).2 ⟨h0', h8', (trunc_iff _ _).2 fun j hj h3 => HZ.out j hj (by rw [H0.out] at h3; omega) hj⟩
      go_wp2
      go_ret
      exact ⟨by simp [hok], (by repeat (first | exact Ext.refl _ | assumption | refine Ext.drew ?_ | refine Ext.drewN ?_ _ | refine Ext.alloc ?_ _ | refine Ext.trans ?_ (by assumption)))⟩

end Go.Proofs.Ytofcabhahdecdaa

namespace Go.Proofs.Ytofcabhahdecdaa
open Go Go.RowKit
set_option linter.unusedVariables false
set_option linter.unusedSimpArgs false
set_option maxRecDepth 100000

set_option maxRecDepth 100000 in
set_option maxHeartbeats 1000000 in
theorem lplace_any (v n : Int) (w : World) (h0 : 0 < n) (h1 : n ≤ 9223372036854775807) (hv : -9223372036854775808 ≤ v ∧ v ≤ 9223372036854775807) :
    Calls Try.prog 11 #[.int .i64 v, .int .i64 n] w fun e w' => e = .returned (.int .i64 (v % n)) ∧ w' = w := by
  have hn : n ≠ 0 := by omega
  have hn1 : ¬ n = -1 := by omega
  have hb := Int.natAbs_tmod v n
  have hlt : (v.tmod n).natAbs < n.natAbs := by rw [hb]; exact Nat.mod_lt _ (by omega)
  have hem : v % n = if v.tmod n < 0 then v.tmod n + n else v.tmod n := by
    have e1 := Int.emod_def v n
    have e2 := Int.tmod_def v n
    have e3 := Int.emod_nonneg v hn
    have e4 := Int.emod_lt_of_pos v h0
    have e5 : v % n = v.tmod n ∨ v % n = v.tmod n + n := by
      rw [Int.emod_eq_tmod]; split
      · exact .inl (by omega)
      · right; omega
    split <;> omega
  have HE := Lib.hid hem
  clear hem hb
  by_cases hneg : v.tmod n < 0
  · have i1 : IntKind.i64.wrap (v.tmod n + n) = v.tmod n + n := IntWalk.i64_in _ (by omega)
    have i2 : IntKind.i64.wrap (v.tmod n) = v.tmod n := IntWalk.i64_in _ (by omega)
    have HN := Lib.hid hneg
    go_enter Try.func11, Try.ntmps11
    go_wp2
    go_ret
    exact ⟨by rw [HE.out, if_pos HN.out]; rfl, rfl⟩
  · have i2 : IntKind.i64.wrap (v.tmod n) = v.tmod n := IntWalk.i64_in _ (by omega)
    have HE2 := Lib.hid (HE.out.trans (if_neg hneg))
    clear HE
    go_enter Try.func11, Try.ntmps11
    go_wp2
    go_ret
    exact ⟨by rw [HE2.out]; rfl, rfl⟩

/-! ### keys by numbers -/
/-- cells that are bytes -/
@[irreducible] def u8L : List Value → Bool
  | [] => true
  | .int .u8 _ :: l => u8L l
  | _ :: _ => false
theorem u8L_nil : u8L [] = true := by unfold u8L; rfl
theorem u8L_cons (x : Int) (l : List Value) : u8L (.int .u8 x :: l) = u8L l := by rw [u8L]
/-- a cell's byte -/
def cellBy : Value → BitVec 8
  | .int _ x => BitVec.ofNat 8 x.toNat
  | _ => 0#8
@[irreducible] def byL (l : List Value) : List (BitVec 8) := l.map cellBy
theorem byL_def (l : List Value) : byL l = l.map cellBy := by unfold byL; rfl
theorem u8L_ints : ∀ (l : List Value), u8L l = true → ∃ ns : List Int, l = ns.map (Value.int .u8)
  | [], _ => ⟨[], rfl⟩
  | v :: l, h => by
    cases v with
    | int k x =>
      cases k <;> first | (rw [u8L_cons] at h; obtain ⟨ns, rfl⟩ := u8L_ints l h; exact ⟨x :: ns, rfl⟩) | (unfold u8L at h; cases h)
    | _ => unfold u8L at h; cases h
attribute [go_sem] u8L_nil u8L_cons
/-- the numbers are bytes' -/
theorem cv_alloc (b n c : Nat) (w : World) (l : List Value) (hb : b = w.heap.size) (hn : n = l.length) (hu : u8L l = true) :
    (convert 77 9 (.slice (some ⟨b, 0, none⟩) n c)).run Try.prog (w.alloc (.cells l.toArray 5)) = .ok (.string (bytesOf (byL l))) (w.alloc (.cells l.toArray 5)) := by
  obtain ⟨ns, rfl⟩ := u8L_ints l hu
  subst hb
  subst hn
  rw [run_convert_bytes_string _ 77 9 5 _ _ _ Try.underlying77 Try.underlying5 Try.underlying9]
  have hr : row? (w.alloc (.cells (ns.map (Value.int .u8)).toArray 5)) w.heap.size 0 (ns.map (Value.int .u8)).length = some (ns.map (Value.int .u8)).toArray := by
    rw [row_alloc_at _ _ _ _ _ _ _ rfl]; exact rowOf_full _ _ (by simp)
  have hl := run_loadCells_row (P := Try.prog) hr
  rw [run_bytesToString _ ⟨w.heap.size, 0, none⟩ _ c ns hl]
  have hf : ∀ (l : List Int) (s : ByteArray), (l.foldl (fun r n => r.push (UInt8.ofNat n.toNat)) s) = ⟨s.data ++ (l.map fun n => UInt8.ofNat n.toNat).toArray⟩ := by
    intro l
    induction l with
    | nil => intro s; simp
    | cons x l ih =>
      intro s
      rw [List.foldl_cons, ih]
      congr 1
      simp [ByteArray.push]
  rw [hf, bytesOf_def, byL_def]
  congr 2
  simp [ByteArray.empty, ByteArray.emptyWithCapacity, Function.comp_def, cellBy]
  rfl
attribute [go_sem] cv_alloc

theorem bytes_extract (l : List (BitVec 8)) (n : Nat) : (bytesOf l).extract 0 n = bytesOf (l.take n) := by
  rw [bytesOf_def, bytesOf_def]
  apply ByteArray.ext
  rw [ByteArray.data_extract]
  simp [List.map_take]
attribute [go_sem] bytes_extract
theorem byL_length (l : List Value) : (byL l).length = l.length := by rw [byL_def]; simp

def bN (n : Nat) : BitVec 8 := BitVec.ofNat 8 n
def keyText (k : Nat) : List (BitVec 8) :=
  match k % 8 with
  | 0 | 1 | 2 => [bN (97 + k / 8 % 6)]
  | 3 | 4 => [bN (97 + k / 8 % 5), bN (97 + k / 40 % 4)]
  | 5 => [bN (97 + k / 8 % 4), 0, bN (k / 32 % 256), bN (k / 8192 % 4), 255, 120, 121, bN (97 + k / 32768 % 3)]
  | 6 => [bN (98 + k / 8 % 3), 108, 111, 110, 103, 101, 114, bN (48 + k / 24 % 9)]
  | _ => [bN (k / 8 % 256), bN (k / 2048 % 256)].take (k / 524288 % 3)
def lawKey (v : Int) : Key := mkKey (keyText (v % 1099511627776).toNat)

theorem keyText_length (k : Nat) : (keyText k).length ≤ 8 := by
  unfold keyText
  split <;> simp
  omega
theorem lawKey_ok (v : Int) : (lawKey v).ok = true := mkKey_ok _ (keyText_length _)
theorem by_n (n : Nat) (x : Int) (h : x = (n : Int)) : BitVec.ofNat 8 x.toNat = bN n := by subst h; rfl

set_option maxRecDepth 100000 in
set_option maxHeartbeats 8000000 in
theorem lkey_any (v : Int) (w : World) (hv : -9223372036854775808 ≤ v ∧ v ≤ 9223372036854775807) : Calls Try.prog 19 #[.int .i64 v] w (Is w (.agg (lawKey v).arr)) := by
  obtain ⟨k, hk⟩ : ∃ k : Nat, v % 1099511627776 = (k : Int) := ⟨(v % 1099511627776).toNat, by omega⟩
  have hlt : k < 1099511627776 := by omega
  have hbx : Box (w.alloc (.cells Key.zero.arr 52)) w.heap.size Key.zero.arr 52 := (by repeat (first | with_reducible assumption | with_reducible exact Box.new (by simp) | with_reducible refine Box.past ?_ _ | with_reducible refine Box.drew ?_ | with_reducible refine Box.drewN ?_ _ | refine Box.ext ?_ (by with_reducible assumption)))
  have HB := Lib.hid hbx
  have HK := Lib.hid hk
  have hlk : lawKey v = mkKey (keyText k) := by unfold lawKey; rw [hk]; rfl
  have HL := Lib.hid hlk
  have hlen := keyText_length k
  have HN := Lib.hid hlen
  have hk0 : (0 : Int) ≤ (k : Int) := by omega
  clear hbx hk hlk hlen
  by_cases h0 : (k : Int) % 8 = 0
  · have hby : byL [.int .u8 (97 + (k : Int) / 8 % 6)] = keyText k := by
      rw [byL_def]
      unfold keyText
      rw [show k % 8 = 0 from by omega]
      simp only [List.map_cons, List.map_nil, cellBy]
      repeat (first | rfl | (refine congr (congrArg List.cons (by_n _ _ (by omega))) ?_) | (refine congr (congrArg List.cons rfl) ?_))
    have HY := Lib.hid hby
    clear hby
    go_enter Try.func19, Try.ntmps19
    go_wp2_with fail
    refine (lplace_any _ _ _ (by omega) (by omega) hv).mono ?_
    rintro e w1 ⟨rfl, rfl⟩
    rw [HK.out]
    go_wp2_with fail
    rw [HY.out]
    refine (refkeyof_any _ _).mono ?_
    rintro e w2 ⟨rfl, he2⟩
    rw [if_pos HN.out]
    have hb2 : Box w2 w.heap.size Key.zero.arr 52 := HB.out.ext (((Ext.refl _).alloc _).trans he2)
    have hrow := (hb2.row 0 9).trans (Key.row _)
    have hfree := hb2.free
    have hlt2 := hb2.lt
    go_wp2
    exact bodyPost_ret (results_1 rfl (res_cell (cs := (lawKey v).arr) Try.underlying52 rfl Key.size' rfl (by rw [row_alloc_past _ _ _ _ _ (by rw [putRow_size]; exact hlt2), (hb2.put 0 _).row, Key.put, HL.out]; exact Key.row _))) rfl ⟨rfl, Ext.alloc (Ext.putRow (Ext.trans (((Ext.refl w).alloc _).alloc _) he2) (Nat.le_refl _)) _⟩
  by_cases h1 : (k : Int) % 8 = 1
  · have hby : byL [.int .u8 (97 + (k : Int) / 8 % 6)] = keyText k := by
      rw [byL_def]
      unfold keyText
      rw [show k % 8 = 1 from by omega]
      simp only [List.map_cons, List.map_nil, cellBy]
      repeat (first | rfl | (refine congr (congrArg List.cons (by_n _ _ (by omega))) ?_) | (refine congr (congrArg List.cons rfl) ?_))
    have HY := Lib.hid hby
    clear hby
    go_enter Try.func19, Try.ntmps19
    go_wp2_with fail
    refine (lplace_any _ _ _ (by omega) (by omega) hv).mono ?_
    rintro e w1 ⟨rfl, rfl⟩
    rw [HK.out]
    go_wp2_with fail
    rw [HY.out]
    refine (refkeyof_any _ _).mono ?_
    rintro e w2 ⟨rfl, he2⟩
    rw [if_pos HN.out]
    have hb2 : Box w2 w.heap.size Key.zero.arr 52 := HB.out.ext (((Ext.refl _).alloc _).trans he2)
    have hrow := (hb2.row 0 9).trans (Key.row _)
    have hfree := hb2.free
    have hlt2 := hb2.lt
    go_wp2
    exact bodyPost_ret (results_1 rfl (res_cell (cs := (lawKey v).arr) Try.underlying52 rfl Key.size' rfl (by rw [row_alloc_past _ _ _ _ _ (by rw [putRow_size]; exact hlt2), (hb2.put 0 _).row, Key.put, HL.out]; exact Key.row _))) rfl ⟨rfl, Ext.alloc (Ext.putRow (Ext.trans (((Ext.refl w).alloc _).alloc _) he2) (Nat.le_refl _)) _⟩
  by_cases h2 : (k : Int) % 8 = 2
  · have hby : byL [.int .u8 (97 + (k : Int) / 8 % 6)] = keyText k := by
      rw [byL_def]
      unfold keyText
      rw [show k % 8 = 2 from by omega]
      simp only [List.map_cons, List.map_nil, cellBy]
      repeat (first | rfl | (refine congr (congrArg List.cons (by_n _ _ (by omega))) ?_) | (refine congr (congrArg List.cons rfl) ?_))
    have HY := Lib.hid hby
    clear hby
    go_enter Try.func19, Try.ntmps19
    go_wp2_with fail
    refine (lplace_any _ _ _ (by omega) (by omega) hv).mono ?_
    rintro e w1 ⟨rfl, rfl⟩
    rw [HK.out]
    go_wp2_with fail
    rw [HY.out]
    refine (refkeyof_any _ _).mono ?_
    rintro e w2 ⟨rfl, he2⟩
    rw [if_pos HN.out]
    have hb2 : Box w2 w.heap.size Key.zero.arr 52 := HB.out.ext (((Ext.refl _).alloc _).trans he2)
    have hrow := (hb2.row 0 9).trans (Key.row _)
    have hfree := hb2.free
    have hlt2 := hb2.lt
    go_wp2
    exact bodyPost_ret (results_1 rfl (res_cell (cs := (lawKey v).arr) Try.underlying52 rfl Key.size' rfl (by rw [row_alloc_past _ _ _ _ _ (by rw [putRow_size]; exact hlt2), (hb2.put 0 _).row, Key.put, HL.out]; exact Key.row _))) rfl ⟨rfl, Ext.alloc (Ext.putRow (Ext.trans (((Ext.refl w).alloc _).alloc _) he2) (Nat.le_refl _)) _⟩
  by_cases h3 : (k : Int) % 8 = 3
  · have hby : byL [.int .u8 (97 + (k : Int) / 8 % 5), .int .u8 (97 + (k : Int) / 40 % 4)] = keyText k := by
      rw [byL_def]
      unfold keyText
      rw [show k % 8 = 3 from by omega]
      simp only [List.map_cons, List.map_nil, cellBy]
      repeat (first | rfl | (refine congr (congrArg List.cons (by_n _ _ (by omega))) ?_) | (refine congr (congrArg List.cons rfl) ?_))
    have HY := Lib.hid hby
    clear hby
    go_enter Try.func19, Try.ntmps19
    go_wp2_with fail
    refine (lplace_any _ _ _ (by omega) (by omega) hv).mono ?_
    rintro e w1 ⟨rfl, rfl⟩
    rw [HK.out]
    go_wp2_with fail
    rw [HY.out]
    refine (refkeyof_any _ _).mono ?_
    rintro e w2 ⟨rfl, he2⟩
    rw [if_pos HN.out]
    have hb2 : Box w2 w.heap.size Key.zero.arr 52 := HB.out.ext (((Ext.refl _).alloc _).trans he2)
    have hrow := (hb2.row 0 9).trans (Key.row _)
    have hfree := hb2.free
    have hlt2 := hb2.lt
    go_wp2
    exact bodyPost_ret (results_1 rfl (res_cell (cs := (lawKey v).arr) Try.underlying52 rfl Key.size' rfl (by rw [row_alloc_past _ _ _ _ _ (by rw [putRow_size]; exact hlt2), (hb2.put 0 _).row, Key.put, HL.out]; exact Key.row _))) rfl ⟨rfl, Ext.alloc (Ext.putRow (Ext.trans (((Ext.refl w).alloc _).alloc _) he2) (Nat.le_refl _)) _⟩
  by_cases h4 : (k : Int) % 8 = 4
  · have hby : byL [.int .u8 (97 + (k : Int) / 8 % 5), .int .u8 (97 + (k : Int) / 40 % 4)] = keyText k := by
      rw [byL_def]
      unfold keyText
      rw [show k % 8 = 4 from by omega]
      simp only [List.map_cons, List.map_nil, cellBy]
      repeat (first | rfl | (refine congr (congrArg List.cons (by_n _ _ (by omega))) ?_) | (refine congr (congrArg List.cons rfl) ?_))
    have HY := Lib.hid hby
    clear hby
    go_enter Try.func19, Try.ntmps19
    go_wp2_with fail
    refine (lplace_any _ _ _ (by omega) (by omega) hv).mono ?_
    rintro e w1 ⟨rfl, rfl⟩
    rw [HK.out]
    go_wp2_with fail
    rw [HY.out]
    refine (refkeyof_any _ _).mono ?_
    rintro e w2 ⟨rfl, he2⟩
    rw [if_pos HN.out]
    have hb2 : Box w2 w.heap.size Key.zero.arr 52 := HB.out.ext (((Ext.refl _).alloc _).trans he2)
    have hrow := (hb2.row 0 9).trans (Key.row _)
    have hfree := hb2.free
    have hlt2 := hb2.lt
    go_wp2
    exact bodyPost_ret (results_1 rfl (res_cell (cs := (lawKey v).arr) Try.underlying52 rfl Key.size' rfl (by rw [row_alloc_past _ _ _ _ _ (by rw [putRow_size]; exact hlt2), (hb2.put 0 _).row, Key.put, HL.out]; exact Key.row _))) rfl ⟨rfl, Ext.alloc (Ext.putRow (Ext.trans (((Ext.refl w).alloc _).alloc _) he2) (Nat.le_refl _)) _⟩
  by_cases h5 : (k : Int) % 8 = 5
  · have hby : byL [.int .u8 (97 + (k : Int) / 8 % 4), .int .u8 (0), .int .u8 ((k : Int) / 32 % 256), .int .u8 ((k : Int) / 8192 % 4), .int .u8 (255), .int .u8 (120), .int .u8 (121), .int .u8 (97 + (k : Int) / 32768 % 3)] = keyText k := by
      rw [byL_def]
      unfold keyText
      rw [show k % 8 = 5 from by omega]
      simp only [List.map_cons, List.map_nil, cellBy]
      repeat (first | rfl | (refine congr (congrArg List.cons (by_n _ _ (by omega))) ?_) | (refine congr (congrArg List.cons rfl) ?_))
    have HY := Lib.hid hby
    clear hby
    go_enter Try.func19, Try.ntmps19
    go_wp2_with fail
    refine (lplace_any _ _ _ (by omega) (by omega) hv).mono ?_
    rintro e w1 ⟨rfl, rfl⟩
    rw [HK.out]
    go_wp2_with fail
    rw [HY.out]
    refine (refkeyof_any _ _).mono ?_
    rintro e w2 ⟨rfl, he2⟩
    rw [if_pos HN.out]
    have hb2 : Box w2 w.heap.size Key.zero.arr 52 := HB.out.ext (((Ext.refl _).alloc _).trans he2)
    have hrow := (hb2.row 0 9).trans (Key.row _)
    have hfree := hb2.free
    have hlt2 := hb2.lt
    go_wp2
    exact bodyPost_ret (results_1 rfl (res_cell (cs := (lawKey v).arr) Try.underlying52 rfl Key.size' rfl (by rw [row_alloc_past _ _ _ _ _ (by rw [putRow_size]; exact hlt2), (hb2.put 0 _).row, Key.put, HL.out]; exact Key.row _))) rfl ⟨rfl, Ext.alloc (Ext.putRow (Ext.trans (((Ext.refl w).alloc _).alloc _) he2) (Nat.le_refl _)) _⟩
  by_cases h6 : (k : Int) % 8 = 6
  · have hby : byL [.int .u8 (98 + (k : Int) / 8 % 3), .int .u8 (108), .int .u8 (111), .int .u8 (110), .int .u8 (103), .int .u8 (101), .int .u8 (114), .int .u8 (48 + (k : Int) / 24 % 9)] = keyText k := by
      rw [byL_def]
      unfold keyText
      rw [show k % 8 = 6 from by omega]
      simp only [List.map_cons, List.map_nil, cellBy]
      repeat (first | rfl | (refine congr (congrArg List.cons (by_n _ _ (by omega))) ?_) | (refine congr (congrArg List.cons rfl) ?_))
    have HY := Lib.hid hby
    clear hby
    go_enter Try.func19, Try.ntmps19
    go_wp2_with fail
    refine (lplace_any _ _ _ (by omega) (by omega) hv).mono ?_
    rintro e w1 ⟨rfl, rfl⟩
    rw [HK.out]
    go_wp2_with fail
    rw [HY.out]
    refine (refkeyof_any _ _).mono ?_
    rintro e w2 ⟨rfl, he2⟩
    rw [if_pos HN.out]
    have hb2 : Box w2 w.heap.size Key.zero.arr 52 := HB.out.ext (((Ext.refl _).alloc _).trans he2)
    have hrow := (hb2.row 0 9).trans (Key.row _)
    have hfree := hb2.free
    have hlt2 := hb2.lt
    go_wp2
    exact bodyPost_ret (results_1 rfl (res_cell (cs := (lawKey v).arr) Try.underlying52 rfl Key.size' rfl (by rw [row_alloc_past _ _ _ _ _ (by rw [putRow_size]; exact hlt2), (hb2.put 0 _).row, Key.put, HL.out]; exact Key.row _))) rfl ⟨rfl, Ext.alloc (Ext.putRow (Ext.trans (((Ext.refl w).alloc _).alloc _) he2) (Nat.le_refl _)) _⟩
  have h7 : (k : Int) % 8 = 7 := by omega
  have hb0 : (0 : Int) ≤ (k : Int) / 524288 % 3 := by omega
  have hb3 : (k : Int) / 524288 % 3 ≤ 2 := by omega
  have hsz : (bytesOf (byL [.int .u8 ((k : Int) / 8 % 256), .int .u8 ((k : Int) / 2048 % 256)])).size = 2 := by rw [bytesOf_size, byL_length]; rfl
  have hby : (byL [.int .u8 ((k : Int) / 8 % 256), .int .u8 ((k : Int) / 2048 % 256)]).take (k / 524288 % 3) = keyText k := by
    rw [byL_def]
    unfold keyText
    rw [show k % 8 = 7 from by omega]
    simp only [List.map_cons, List.map_nil, cellBy]
    rw [by_n (k / 8 % 256) _ (by omega), by_n (k / 2048 % 256) _ (by omega)]
  have HY := Lib.hid hby
  clear hby
  go_enter Try.func19, Try.ntmps19
  go_wp2_with fail
  refine (lplace_any _ _ _ (by omega) (by omega) hv).mono ?_
  rintro e w1 ⟨rfl, rfl⟩
  rw [HK.out]
  go_wp2_with fail
  rw [HY.out]
  refine (refkeyof_any _ _).mono ?_
  rintro e w2 ⟨rfl, he2⟩
  rw [if_pos HN.out]
  have hb2 : Box w2 w.heap.size Key.zero.arr 52 := HB.out.ext (((Ext.refl _).alloc _).trans he2)
  have hrow := (hb2.row 0 9).trans (Key.row _)
  have hfree := hb2.free
  have hlt2 := hb2.lt
  go_wp2
  exact bodyPost_ret (results_1 rfl (res_cell (cs := (lawKey v).arr) Try.underlying52 rfl Key.size' rfl (by rw [row_alloc_past _ _ _ _ _ (by rw [putRow_size]; exact hlt2), (hb2.put 0 _).row, Key.put, HL.out]; exact Key.row _))) rfl ⟨rfl, Ext.alloc (Ext.putRow (Ext.trans (((Ext.refl w).alloc _).alloc _) he2) (Nat.le_refl _)) _⟩
end Go.Proofs.Ytofcabhahdecdaa

namespace Go.Proofs.Ytofcabhahdecdaa
open Go Go.RowKit
set_option linter.unusedVariables false
set_option linter.unusedSimpArgs false
set_option maxRecDepth 100000

def keysA (l : List Key) : AV := .sl none 9 (l.map Key.av)
def intsA (l : List Int) : AV := .sl none 1 (l.map intA)
def bytesA (l : List (BitVec 8)) : AV := .sl none 1 (l.map byteA)
def msgsA (l : List Msg) : AV := .sl none 29 (l.map Msg.av)
def entsA (l : List Ent) : AV := .sl none 26 (l.map Ent.av)
theorem a_keycheck (a : Key) : AFn Try.prog 61 [a.av] (boolA a.ok) := fun U w vs h => by
  obtain ⟨v1, us, rfl, h1, h⟩ := rdp_one h
  obtain rfl := rdp_nil h
  rw [dKey.rdv.1 h1]
  exact ofIs (keycheck_any a w) fun w' => is_v (w := w) rfl
theorem a_keycmp (a b : Key) : AFn Try.prog 51 [a.av, b.av] (intA (keyCmp a b)) := fun U w vs h => by
  obtain ⟨v1, us, rfl, h1, h⟩ := rdp_one h
  obtain ⟨v2, us, rfl, h2, h⟩ := rdp_one h
  obtain rfl := rdp_nil h
  rw [dKey.rdv.1 h1, dKey.rdv.1 h2]
  exact ofIs (keycmp_any a b w) fun w' => is_v (w := w) rfl
theorem a_refkeycheck (a : Key) : AFn Try.prog 37 [a.av] (boolA a.ok) := fun U w vs h => by
  obtain ⟨v1, us, rfl, h1, h⟩ := rdp_one h
  obtain rfl := rdp_nil h
  rw [dKey.rdv.1 h1]
  exact ofIs (refkeycheck_any a w) fun w' => is_v (w := w) rfl
theorem a_refcmp (a b : Key) : AFn Try.prog 40 [a.av, b.av] (intA (refCmp a b)) := fun U w vs h => by
  obtain ⟨v1, us, rfl, h1, h⟩ := rdp_one h
  obtain ⟨v2, us, rfl, h2, h⟩ := rdp_one h
  obtain rfl := rdp_nil h
  rw [dKey.rdv.1 h1, dKey.rdv.1 h2]
  exact ofIs (refkeycmp_any a b w) fun w' => is_v (w := w) rfl
theorem a_refvlcheck (a : Vl) : AFn Try.prog 39 [a.av] (boolA a.ok) := fun U w vs h => by
  obtain ⟨v1, us, rfl, h1, h⟩ := rdp_one h
  obtain rfl := rdp_nil h
  rw [dVl.rdv.1 h1]
  exact ofIs (refvlcheck_any a w) fun w' => is_v (w := w) rfl
theorem u64_arg {U : Uns} {w : World} {B : Blk} {H : Hp} {n : BitVec 64} {v : Value} (h : Rdv U w B H (u64A n) v) : v = .int .u64 (D64 n) := (Rdv_v.1 h).2
theorem int_arg {U : Uns} {w : World} {B : Blk} {H : Hp} {n : Int} {v : Value} (h : Rdv U w B H (intA n) v) : v = .int .i64 n := (Rdv_v.1 h).2
theorem a_plus (a : Vl) (n : BitVec 64) : AFn Try.prog 52 [a.av, u64A n] (vplus a n).av := fun U w vs h => by
  obtain ⟨v1, us, rfl, h1, h⟩ := rdp_one h
  obtain ⟨v2, us, rfl, h2, h⟩ := rdp_one h
  obtain rfl := rdp_nil h
  rw [dVl.rdv.1 h1, u64_arg h2]
  exact ofIs (plus_any a n w) fun w' => dVl.rdv.2 rfl
theorem a_refplus (a : Vl) (n : BitVec 64) : AFn Try.prog 50 [a.av, u64A n] (vplus a n).av := fun U w vs h => by
  obtain ⟨v1, us, rfl, h1, h⟩ := rdp_one h
  obtain ⟨v2, us, rfl, h2, h⟩ := rdp_one h
  obtain rfl := rdp_nil h
  rw [dVl.rdv.1 h1, u64_arg h2]
  exact ofIs (refplus_any a n w) fun w' => dVl.rdv.2 rfl
theorem a_lkey (v : Int) (hv : -9223372036854775808 ≤ v ∧ v ≤ 9223372036854775807) : AFn Try.prog 19 [intA v] (lawKey v).av := fun U w vs h => by
  obtain ⟨v1, us, rfl, h1, h⟩ := rdp_one h
  obtain rfl := rdp_nil h
  rw [int_arg h1]
  exact ofIs (lkey_any v w hv) fun w' => dKey.rdv.2 rfl
end Go.Proofs.Ytofcabhahdecdaa

namespace Go.Proofs.Ytofcabhahdecdaa
open Go Go.RowKit
set_option linter.unusedVariables false
set_option linter.unusedSimpArgs false
set_option maxRecDepth 100000

/-! ### plain law -/
@[irreducible] def Msg.ok (m : Msg) : Bool := decide (1 ≤ m.kind) && decide (m.kind ≤ 3) && m.key.ok && (if m.kind = 1 then m.val.ok else decide (m.val = Vl.zero)) && (decide (m.kind = 3) || decide (m.add = 0#64))
theorem D64_eq0 (n : BitVec 64) : D64 n = 0 ↔ n = 0#64 := by
  rw [← D64_zero]
  exact D64_inj
theorem Msg.no1 {m : Msg} (h : m.kind < 1) : m.ok = false := by unfold Msg.ok; simp [show ¬ 1 ≤ m.kind by omega]
theorem Msg.no3 {m : Msg} (h : 3 < m.kind) : m.ok = false := by unfold Msg.ok; simp [show ¬ m.kind ≤ 3 by omega]
theorem Msg.nok {m : Msg} (h : m.key.ok = false) : m.ok = false := by unfold Msg.ok; simp [h]
theorem Msg.nov {m : Msg} (h1 : m.kind = 1) (h : m.val.ok = false) : m.ok = false := by unfold Msg.ok; simp [h1, h]
theorem Msg.noz {m : Msg} (h1 : ¬ m.kind = 1) (h : m.val ≠ Vl.zero) : m.ok = false := by unfold Msg.ok; simp [h1, h]
theorem Msg.okPut {m : Msg} (h1 : m.kind = 1) (hk : m.key.ok = true) (h : m.val.ok = true) : m.ok = decide (D64 m.add = 0) := by
  unfold Msg.ok; simp [h1, hk, h, D64_eq0]
theorem Msg.okDel {m : Msg} (h1 : m.kind = 2) (hk : m.key.ok = true) (h : m.val = Vl.zero) : m.ok = decide (D64 m.add = 0) := by
  unfold Msg.ok; simp [h1, hk, h, D64_eq0]
theorem Msg.okAdd {m : Msg} (h1 : m.kind = 3) (hk : m.key.ok = true) (h : m.val = Vl.zero) : m.ok = true := by
  unfold Msg.ok; simp [h1, hk, h]
theorem Msg.spec {m : Msg} (h : m.ok = true) : 1 ≤ m.kind ∧ m.kind ≤ 3 ∧ m.key.ok = true ∧ m.val.ok = true ∧ (m.kind ≠ 1 → m.val = Vl.zero) ∧ (m.kind ≠ 3 → m.add = 0#64) := by
  unfold Msg.ok at h
  simp only [Bool.and_eq_true, Bool.or_eq_true, decide_eq_true_eq] at h
  obtain ⟨⟨⟨⟨h1, h2⟩, h3⟩, h4⟩, h5⟩ := h
  by_cases c : m.kind = 1
  · rw [if_pos c] at h4
    exact ⟨h1, h2, h3, h4, fun n => absurd c n, fun n => h5.resolve_left n⟩
  · rw [if_neg c, decide_eq_true_eq] at h4
    exact ⟨h1, h2, h3, by rw [h4]; exact Vl.zero_ok, fun _ => h4, fun n => h5.resolve_left n⟩
theorem Key.n_le {k : Key} (h : k.ok = true) : 0 ≤ k.n ∧ k.n ≤ 8 := by have := (Key.ok_iff k).1 h; exact ⟨this.1, this.2.1⟩
theorem Vl.n_le {k : Vl} (h : k.ok = true) : 0 ≤ k.n ∧ k.n ≤ 16 := by have := (Vl.ok_iff k).1 h; exact ⟨this.1, this.2.1⟩
def Msg.size (m : Msg) : Int := if m.ok then (if m.kind = 1 then 11 + m.key.n + m.val.n else if m.kind = 3 then 18 + m.key.n else 10 + m.key.n) else 0
def applyM (v : Vl) (there : Bool) (m : Msg) : Vl × Bool :=
  if m.kind = 1 then (m.val, true) else if m.kind = 2 then (Vl.zero, false) else if there then (vplus v m.add, true) else (fromN m.add, true)
def composeM (o n : Msg) : Msg :=
  if n.kind ≠ 3 ∨ o.key ≠ n.key then n else
  if o.kind = 1 then ⟨1, n.seq, n.key, vplus o.val n.add, 0#64⟩ else
  if o.kind = 2 then ⟨1, n.seq, n.key, fromN n.add, 0#64⟩ else
  ⟨3, n.seq, n.key, Vl.zero, o.add + n.add⟩
set_option maxRecDepth 100000 in
theorem vplus_zero (n : BitVec 64) : vplus Vl.zero n = fromN n := by
  unfold vplus
  rw [show numOf Vl.zero = 0#64 from by decide]
  simp
/-! ### contracts -/
theorem a_from (n : BitVec 64) : AFn Try.prog 57 [u64A n] (fromN n).av := fun U w vs h => by
  obtain ⟨v1, us, rfl, h1, h⟩ := rdp_one h
  obtain rfl := rdp_nil h
  rw [u64_arg h1]
  exact ofIs (from_any n w) fun w' => dVl.rdv.2 rfl
theorem a_reffrom (n : BitVec 64) : AFn Try.prog 49 [u64A n] (fromN n).av := fun U w vs h => by
  obtain ⟨v1, us, rfl, h1, h⟩ := rdp_one h
  obtain rfl := rdp_nil h
  rw [u64_arg h1]
  exact ofIs (reffrom_any n w) fun w' => dVl.rdv.2 rfl
section
variable {E : Env} {nt : Nat} {ops : Array Oper} {T : Nat → Option AV} {H : Hp} {d : Option Nat} {ty : TypeId} {pos : String} {af : Array Edge} {gd : Option (Nat × Bool)}
theorem o_addu {t t' : TypeId} {x y : Operand} {a b : BitVec 64} (hd : dOk nt d = true) (hx : evalO T x = some (.v (.int .u64 (D64 a)))) (hy : evalO T y = some (.v (.int .u64 (D64 b)))) : OpOK Try.prog E nt ops ⟨d, .binOp .add t x y t', ty, pos, af, gd⟩ T H [] ⟨.v (.int .u64 (D64 (a + b))), []⟩ := ok_add hd hx hy (D64_add a b)
set_option maxRecDepth 100000 in
theorem z_bld0 {t n : Nat} {fs : List (Nat × Nat × Bool)} {zs : List AV} {z : AV} (hz : zeroT t = some z) (hze : z = .agg n zs) (hd : dOk nt d = true) (hs : tabT.ti t = some (.st n fs)) (hp : placesOk 0 zs fs = true) :
    OpOK Try.prog E nt ops ⟨d, .build t #[], ty, pos, af, gd⟩ T H [] ⟨z, []⟩ := by
  subst hze
  exact ok_build tabT (l := []) (vs := []) hd hs (zeroT_ok hz) rfl rfl hp
end
attribute [local irreducible] OpOK AWops AW CondB Go2 AFn thenA inBlockA noGotoA orderOk wantedA
set_option maxRecDepth 100000 in
set_option maxHeartbeats 4000000 in
theorem a_refapply (v : Vl) (b : Bool) (m : Msg) : AFn Try.prog 43 [v.av, boolA b, m.av] (.tup [(applyM v b m).1.av, boolA (applyM v b m).2]) := by
  refine AFn_intro Try.func43 rfl Try.ntmps43 rfl (by simp) [_, _] rfl fun E hE => ?_
  have c1 := acall Try.func49 (a_reffrom m.add) (by decide +kernel) (by decide +kernel)
  have c2 := acall Try.func50 (a_refplus v m.add) (by decide +kernel) (by decide +kernel)
  unfold applyM
  by_cases p : m.kind = 1
  · rw [if_pos p]
    refine wL ?_
    exact fin ⟨res_var rfl rfl rfl rfl, res_of rfl rfl rfl, trivial⟩
  rw [if_neg p]
  by_cases p2 : m.kind = 2
  · rw [if_pos p2]
    refine wL ?_
    exact fin ⟨res_var rfl rfl rfl rfl, res_of rfl rfl rfl, trivial⟩
  rw [if_neg p2]
  cases b with
  | true =>
    have k' : (!true) = false := rfl
    refine wL ?_
    exact fin ⟨res_var rfl rfl rfl rfl, res_of rfl rfl rfl, trivial⟩
  | false =>
    have k' : (!false) = true := rfl
    refine wL ?_
    exact fin ⟨res_var rfl rfl rfl rfl, res_of rfl rfl rfl, trivial⟩
set_option maxRecDepth 100000 in
set_option maxHeartbeats 4000000 in
theorem a_apply (v : Vl) (b : Bool) (m : Msg) (hm : 1 ≤ m.kind ∧ m.kind ≤ 3) : AFn Try.prog 48 [v.av, boolA b, m.av] (.tup [(applyM v b m).1.av, boolA (applyM v b m).2]) := by
  refine AFn_intro Try.func48 rfl Try.ntmps48 rfl (by simp) [_, _] rfl fun E hE => ?_
  have c1 := a_plus Vl.zero m.add
  rw [vplus_zero] at c1
  have d1 := acall Try.func52 (c1) (by decide +kernel) (by decide +kernel)
  have d2 := acall Try.func52 (a_plus v m.add) (by decide +kernel) (by decide +kernel)
  unfold applyM
  by_cases p : m.kind = 1
  · rw [if_pos p]
    refine wL ?_
    exact fin ⟨res_var rfl rfl rfl rfl, res_of rfl rfl rfl, trivial⟩
  rw [if_neg p]
  by_cases p2 : m.kind = 2
  · rw [if_pos p2]
    refine wL ?_
    exact fin ⟨res_var rfl rfl rfl rfl, res_of rfl rfl rfl, trivial⟩
  rw [if_neg p2]
  have p3 : m.kind = 3 := by omega
  cases b with
  | true =>
    have k' : (!true) = false := rfl
    refine wL ?_
    exact fin ⟨res_var rfl rfl rfl rfl, res_of rfl rfl rfl, trivial⟩
  | false =>
    have k' : (!false) = true := rfl
    refine wL ?_
    exact fin ⟨res_var rfl rfl rfl rfl, res_of rfl rfl rfl, trivial⟩
end Go.Proofs.Ytofcabhahdecdaa

namespace Go.Proofs.Ytofcabhahdecdaa
open Go Go.RowKit
set_option linter.unusedVariables false
set_option linter.unusedSimpArgs false
set_option maxRecDepth 100000

def Ent.size (e : Ent) : Int := 2 + e.key.n + e.val.n
def eSum (l : List Ent) : Int := (l.map Ent.size).sum
def lfAt (k : Key) (l : List Ent) : Nat := l.countP fun e => decide (e.key.rank < k.rank)
def Srt (l : List Ent) : Prop := l.Pairwise fun a b => a.key.rank < b.key.rank
def EOk (l : List Ent) : Prop := ∀ e ∈ l, e.key.ok = true ∧ e.val.ok = true
structure Lf (l : List Ent) : Prop where
  ok : EOk l
  srt : Srt l
/-- a key's value -/
def lfGet (k : Key) (l : List Ent) : Option Vl := (l.find? fun e => decide (e.key = k)).map (·.val)
/-- what a message makes of a key's value -/
def ap (m : Msg) (o : Option Vl) : Option Vl := if m.kind = 1 then some m.val else if m.kind = 2 then none else match o with
  | some v => some (vplus v m.add)
  | none => some (fromN m.add)
def opA (o : Option Vl) : Vl × Bool := match o with
  | some v => (v, true)
  | none => (Vl.zero, false)
theorem applyM_ap (m : Msg) (o : Option Vl) : applyM (opA o).1 (opA o).2 m = opA (ap m o) := by
  unfold applyM ap
  by_cases h1 : m.kind = 1
  · rw [if_pos h1, if_pos h1]; rfl
  · rw [if_neg h1, if_neg h1]
    by_cases h2 : m.kind = 2
    · rw [if_pos h2, if_pos h2]; rfl
    · rw [if_neg h2, if_neg h2]
      cases o <;> rfl
def newE (k : Key) (o : Option Vl) : List Ent := match o with
  | some v => [⟨k, v⟩]
  | none => []
def lfSet (l : List Ent) (k : Key) (o : Option Vl) : List Ent := l.filter (fun e => decide (e.key.rank < k.rank)) ++ (newE k o ++ l.filter (fun e => decide (k.rank < e.key.rank)))
/-- the leaf behind a message -/
def lfPut (l : List Ent) (m : Msg) : List Ent := lfSet l m.key (ap m (lfGet m.key l))
def lfAll (l : List Ent) (ms : List Msg) : List Ent := ms.foldl lfPut l

theorem lfAt_le (k : Key) (l : List Ent) : lfAt k l ≤ l.length := List.countP_le_length
theorem lfAt_cons (k : Key) (e : Ent) (l : List Ent) : lfAt k (e :: l) = lfAt k l + if e.key.rank < k.rank then 1 else 0 := by
  unfold lfAt
  rw [List.countP_cons]
  simp
theorem Srt.tail {e : Ent} {l : List Ent} (h : Srt (e :: l)) : Srt l := (List.pairwise_cons.1 h).2
theorem Srt.head {e : Ent} {l : List Ent} (h : Srt (e :: l)) : ∀ b ∈ l, e.key.rank < b.key.rank := (List.pairwise_cons.1 h).1
theorem lfAt_zero {k : Key} {l : List Ent} (h : ∀ b ∈ l, k.rank ≤ b.key.rank) : lfAt k l = 0 := by
  unfold lfAt
  rw [List.countP_eq_zero]
  intro b hb
  have := h b hb
  simp; omega
theorem lfAt_iff {k : Key} {l : List Ent} (h : Srt l) : ∀ i (hi : i < l.length), (i < lfAt k l ↔ l[i].key.rank < k.rank) := by
  induction l with
  | nil => intro i hi; cases hi
  | cons e l ih =>
    intro i hi
    rw [lfAt_cons]
    by_cases c : e.key.rank < k.rank
    · rw [if_pos c]
      cases i with
      | zero => simp [c]
      | succ i => simpa using ih h.tail i (by simpa using hi)
    · rw [if_neg c]
      have hz : lfAt k l = 0 := lfAt_zero fun b hb => by have := h.head b hb; omega
      rw [hz]
      cases i with
      | zero => simp; omega
      | succ i =>
        have hi' : i < l.length := by simpa using hi
        have := h.head l[i] (List.getElem_mem hi')
        simp; omega
theorem Srt.lt {l : List Ent} (h : Srt l) {i j : Nat} (hi : i < l.length) (hj : j < l.length) (hij : i < j) : l[i].key.rank < l[j].key.rank := List.pairwise_iff_getElem.1 h i j hi hj hij
theorem Srt.inj {l : List Ent} (h : Srt l) {a b : Ent} (ha : a ∈ l) (hb : b ∈ l) (he : a.key.rank = b.key.rank) : a = b := by
  obtain ⟨i, hi, rfl⟩ := List.mem_iff_getElem.1 ha
  obtain ⟨j, hj, rfl⟩ := List.mem_iff_getElem.1 hb
  rcases Nat.lt_trichotomy i j with c | c | c
  · have := h.lt hi hj c; omega
  · subst c; rfl
  · have := h.lt hj hi c; omega
theorem lfGet_iff {l : List Ent} (h : Srt l) (k : Key) (v : Vl) : lfGet k l = some v ↔ (⟨k, v⟩ : Ent) ∈ l := by
  unfold lfGet
  constructor
  · intro hf
    rw [Option.map_eq_some_iff] at hf
    obtain ⟨e, h1, h2⟩ := hf
    have h3 := List.mem_of_find?_eq_some h1
    have h4 := List.find?_some h1
    rw [decide_eq_true_eq] at h4
    subst h4; subst h2
    exact h3
  · intro hm
    cases hf : l.find? (fun e => decide (e.key = k)) with
    | none =>
      rw [List.find?_eq_none] at hf
      have := hf _ hm
      simp at this
    | some e =>
      have h3 := List.mem_of_find?_eq_some hf
      have h4 := List.find?_some hf
      rw [decide_eq_true_eq] at h4
      have := h.inj h3 hm (by rw [h4])
      rw [this]; rfl
theorem srt_ext : ∀ {l1 l2 : List Ent}, Srt l1 → Srt l2 → (∀ e, e ∈ l1 ↔ e ∈ l2) → l1 = l2
  | [], l2, _, _, h => by
    cases l2 with
    | nil => rfl
    | cons b l => exact absurd ((h b).2 (by simp)) (by simp)
  | a :: l1, [], _, _, h => absurd ((h a).1 (by simp)) (by simp)
  | a :: l1, b :: l2, h1, h2, h => by
    have hab : a = b := by
      have m1 := (h a).1 (by simp)
      have m2 := (h b).2 (by simp)
      rcases List.mem_cons.1 m1 with m1 | m1
      · exact m1
      · rcases List.mem_cons.1 m2 with m2 | m2
        · exact m2.symm
        · have := h2.head a m1
          have := h1.head b m2
          omega
    subst hab
    rw [srt_ext h1.tail h2.tail (fun e => ?_)]
    constructor
    · intro he
      rcases List.mem_cons.1 ((h e).1 (List.mem_cons_of_mem _ he)) with c | c
      · subst c; have := h1.head e he; omega
      · exact c
    · intro he
      rcases List.mem_cons.1 ((h e).2 (List.mem_cons_of_mem _ he)) with c | c
      · subst c; have := h2.head e he; omega
      · exact c
theorem lf_ext {l1 l2 : List Ent} (h1 : Lf l1) (h2 : Lf l2) (h : ∀ k, k.ok = true → lfGet k l1 = lfGet k l2) : l1 = l2 := by
  refine srt_ext h1.srt h2.srt fun e => ?_
  have a := lfGet_iff h1.srt e.key e.val
  have b := lfGet_iff h2.srt e.key e.val
  constructor
  · intro he
    exact b.1 ((h _ (h1.ok e he).1) ▸ a.2 he)
  · intro he
    exact a.1 ((h _ (h2.ok e he).1).symm ▸ b.2 he)
/-! ### a key's entry by its place -/
theorem get_hit {l : List Ent} (h : Srt l) {k : Key} {i : Nat} (hi : i < l.length) (he : l[i].key = k) : lfGet k l = some l[i].val := by
  rw [lfGet_iff h]
  subst he
  exact List.getElem_mem hi
theorem at_hit {l : List Ent} (h : Srt l) {k : Key} {i : Nat} (hi : i < l.length) (he : l[i].key.rank = k.rank) : lfAt k l = i := by
  have h1 := (lfAt_iff (k := k) h i hi)
  have h3 := lfAt_le k l
  rcases Nat.lt_trichotomy (lfAt k l) i with c | c | c
  · have h4 := (lfAt_iff (k := k) h (lfAt k l) (by omega))
    have := h.lt (by omega) hi c
    omega
  · exact c
  · omega
theorem get_no {l : List Ent} (h : Srt l) {k : Key} (hn : ∀ (hi : lfAt k l < l.length), l[lfAt k l].key ≠ k) : lfGet k l = none := by
  cases hg : lfGet k l with
  | none => rfl
  | some v =>
    rw [lfGet_iff h] at hg
    obtain ⟨i, hi, he⟩ := List.mem_iff_getElem.1 hg
    have := at_hit h (k := k) hi (by rw [he])
    subst this
    exact absurd (by rw [he]) (hn hi)
theorem get_none {l : List Ent} {k : Key} (hn : ∀ i (hi : i < l.length), l[i].key ≠ k) : lfGet k l = none := by
  unfold lfGet
  rw [List.find?_eq_none.2]
  · rfl
  · intro e he
    obtain ⟨i, hi, rfl⟩ := List.mem_iff_getElem.1 he
    simpa using hn i hi
theorem flt_lo {k : Key} {l : List Ent} (h : Srt l) : l.filter (fun e => decide (e.key.rank < k.rank)) = l.take (lfAt k l) := by
  induction l with
  | nil => rfl
  | cons e l ih =>
    rw [lfAt_cons]
    by_cases c : e.key.rank < k.rank
    · rw [if_pos c, List.filter_cons_of_pos (by simpa using c), List.take_succ_cons, ih h.tail]
    · rw [if_neg c, List.filter_cons_of_neg (by simpa using c)]
      have hz : lfAt k l = 0 := lfAt_zero fun b hb => by have := h.head b hb; omega
      rw [ih h.tail, hz]
      rfl
theorem flt_all {k : Key} {l : List Ent} (h : ∀ b ∈ l, k.rank < b.key.rank) : l.filter (fun e => decide (k.rank < e.key.rank)) = l := by
  rw [List.filter_eq_self]
  intro b hb
  simpa using h b hb
theorem flt_hi {k : Key} {l : List Ent} (h : Srt l) : l.filter (fun e => decide (k.rank < e.key.rank)) = l.drop (lfAt k l + if (∃ hi : lfAt k l < l.length, l[lfAt k l].key.rank = k.rank) then 1 else 0) := by
  induction l with
  | nil => simp
  | cons e l ih =>
    by_cases c : e.key.rank < k.rank
    · have e1 : lfAt k (e :: l) = lfAt k l + 1 := by rw [lfAt_cons, if_pos c]
      have e2 : (∃ hi : lfAt k (e :: l) < (e :: l).length, (e :: l)[lfAt k (e :: l)].key.rank = k.rank) ↔ (∃ hi : lfAt k l < l.length, l[lfAt k l].key.rank = k.rank) := by
        simp only [e1]
        constructor
        · rintro ⟨h1, h2⟩; exact ⟨by simpa using h1, by simpa using h2⟩
        · rintro ⟨h1, h2⟩; exact ⟨by simpa using h1, by simpa using h2⟩
      have ih' := ih h.tail
      rw [List.filter_cons_of_neg (by simp; omega), ih']
      by_cases g : ∃ hi : lfAt k l < l.length, l[lfAt k l].key.rank = k.rank
      · rw [if_pos g, if_pos (e2.2 g), e1, show lfAt k l + 1 + 1 = (lfAt k l + 1) + 1 from rfl, List.drop_succ_cons]
      · rw [if_neg g, if_neg (fun x => g (e2.1 x)), e1, Nat.add_zero, Nat.add_zero, List.drop_succ_cons]
    · have hz : lfAt k l = 0 := lfAt_zero fun b hb => by have := h.head b hb; omega
      have e1 : lfAt k (e :: l) = 0 := by rw [lfAt_cons, if_neg c, hz]
      rw [e1]
      by_cases d : e.key.rank = k.rank
      · rw [if_pos ⟨by simp [e1], by simpa [e1] using d⟩, List.filter_cons_of_neg (by simp; omega), flt_all (fun b hb => by have := h.head b hb; omega)]
        rfl
      · rw [if_neg (fun ⟨_, h2⟩ => d (by simpa [e1] using h2)), flt_all (fun b hb => by
          rcases List.mem_cons.1 hb with rfl | hb
          · omega
          · have := h.head b hb; omega)]
        rfl
theorem set_hit {l : List Ent} (h : Srt l) {k : Key} (o : Option Vl) (hi : lfAt k l < l.length) (he : l[lfAt k l].key = k) : lfSet l k o = l.take (lfAt k l) ++ (newE k o ++ l.drop (lfAt k l + 1)) := by
  unfold lfSet
  rw [flt_lo h, flt_hi h, if_pos ⟨hi, by rw [he]⟩]
theorem set_no {l : List Ent} (h : Lf l) {k : Key} (hk : k.ok = true) (o : Option Vl) (hn : ∀ (hi : lfAt k l < l.length), l[lfAt k l].key ≠ k) : lfSet l k o = l.take (lfAt k l) ++ (newE k o ++ l.drop (lfAt k l)) := by
  unfold lfSet
  rw [flt_lo h.srt, flt_hi h.srt, if_neg]
  · rfl
  · rintro ⟨hi, h2⟩
    exact hn hi ((rank_inj (h.ok _ (List.getElem_mem hi)).1 hk).1 h2)
/-! ### of a leaf with a key set -/
theorem mem_set {l : List Ent} {k : Key} {o : Option Vl} {e : Ent} : e ∈ lfSet l k o ↔ (e ∈ l ∧ e.key.rank ≠ k.rank) ∨ (e.key = k ∧ o = some e.val) := by
  unfold lfSet
  simp only [List.mem_append, List.mem_filter, decide_eq_true_eq]
  have hn : e ∈ newE k o ↔ e.key = k ∧ o = some e.val := by
    unfold newE
    cases o with
    | none => simp
    | some v =>
      simp only [List.mem_singleton, Option.some.injEq]
      constructor
      · rintro rfl; exact ⟨rfl, rfl⟩
      · rintro ⟨h1, h2⟩; cases e; simp_all
  rw [hn]
  constructor
  · rintro (⟨h1, h2⟩ | h1 | ⟨h1, h2⟩)
    · exact .inl ⟨h1, by omega⟩
    · exact .inr h1
    · exact .inl ⟨h1, by omega⟩
  · rintro (⟨h1, h2⟩ | h1)
    · rcases Nat.lt_or_gt_of_ne h2 with c | c
      · exact .inl ⟨h1, c⟩
      · exact .inr (.inr ⟨h1, c⟩)
    · exact .inr (.inl h1)
theorem srt_set {l : List Ent} (h : Srt l) (k : Key) (o : Option Vl) : Srt (lfSet l k o) := by
  unfold Srt lfSet
  have hn : ∀ e ∈ newE k o, e.key = k := fun e he => by
    unfold newE at he
    cases o with
    | none => cases he
    | some v => simp only [List.mem_singleton] at he; subst he; rfl
  rw [List.pairwise_append, List.pairwise_append]
  refine ⟨h.sublist List.filter_sublist, ⟨?_, h.sublist List.filter_sublist, fun a ha b hb => ?_⟩, fun a ha b hb => ?_⟩
  · unfold newE
    cases o with
    | none => exact List.Pairwise.nil
    | some v => exact List.pairwise_singleton ..
  · rw [hn a ha]
    simpa using (List.mem_filter.1 hb).2
  · have h1 : a.key.rank < k.rank := by simpa using (List.mem_filter.1 ha).2
    rcases List.mem_append.1 hb with hb | hb
    · rw [hn b hb]; exact h1
    · have h2 : k.rank < b.key.rank := by simpa using (List.mem_filter.1 hb).2
      omega
def OOk (o : Option Vl) : Prop := ∀ v, o = some v → v.ok = true
theorem lf_set {l : List Ent} (h : Lf l) {k : Key} (hk : k.ok = true) {o : Option Vl} (ho : OOk o) : Lf (lfSet l k o) := by
  refine ⟨fun e he => ?_, srt_set h.srt k o⟩
  rcases mem_set.1 he with ⟨h1, _⟩ | ⟨h1, h2⟩
  · exact h.ok e h1
  · exact ⟨by rw [h1]; exact hk, ho _ h2⟩
theorem get_set {l : List Ent} (h : Lf l) {k : Key} (hk : k.ok = true) (o : Option Vl) {x : Key} (hx : x.ok = true) : lfGet x (lfSet l k o) = if x = k then o else lfGet x l := by
  apply Option.ext
  intro v
  rw [lfGet_iff (srt_set h.srt k o), mem_set]
  by_cases c : x = k
  · rw [if_pos c]; subst c
    simp
  · rw [if_neg c, lfGet_iff h.srt]
    have : x.rank ≠ k.rank := fun e => c ((rank_inj hx hk).1 e)
    simp [c, this]
theorem get_ok {l : List Ent} (h : Lf l) (k : Key) : OOk (lfGet k l) := fun v hv => (h.ok _ ((lfGet_iff h.srt k v).1 hv)).2
theorem vplus_ok (v : Vl) (n : BitVec 64) : (vplus v n).ok = true := fromN_ok _
theorem ap_ok {m : Msg} (hm : m.ok = true) {o : Option Vl} (ho : OOk o) : OOk (ap m o) := by
  obtain ⟨h1, h2, h3, h4, _⟩ := Msg.spec hm
  unfold ap
  intro v hv
  split at hv
  · injection hv with hv; subst hv; exact h4
  · split at hv
    · cases hv
    · split at hv
      · injection hv with hv; subst hv; exact vplus_ok _ _
      · injection hv with hv; subst hv; exact fromN_ok _
theorem lf_put {l : List Ent} (h : Lf l) {m : Msg} (hm : m.ok = true) : Lf (lfPut l m) := lf_set h (Msg.spec hm).2.2.1 (ap_ok hm (get_ok h _))
theorem get_put {l : List Ent} (h : Lf l) {m : Msg} (hm : m.ok = true) {x : Key} (hx : x.ok = true) : lfGet x (lfPut l m) = if x = m.key then ap m (lfGet m.key l) else lfGet x l := get_set h (Msg.spec hm).2.2.1 _ hx
theorem lf_all {ms : List Msg} : ∀ {l : List Ent}, Lf l → (∀ m ∈ ms, m.ok = true) → Lf (lfAll l ms) := by
  induction ms with
  | nil => intro l h _; exact h
  | cons m ms ih => intro l h hm; exact ih (lf_put h (hm m (by simp))) (fun x hx => hm x (List.mem_cons_of_mem _ hx))
theorem lf_nil : Lf [] := ⟨(fun e h => by cases h), List.Pairwise.nil⟩
theorem set_len {l : List Ent} (k : Key) (o : Option Vl) : (lfSet l k o).length ≤ l.length + 1 := by
  unfold lfSet
  have h1 : (newE k o).length ≤ 1 := by unfold newE; cases o <;> simp
  have h2 : (l.filter (fun e => decide (e.key.rank < k.rank))).length + (l.filter (fun e => decide (k.rank < e.key.rank))).length ≤ l.length := by
    induction l with
    | nil => simp
    | cons e l ih =>
      simp only [List.filter_cons]
      split <;> split <;> simp_all <;> omega
  simp only [List.length_append]
  omega
theorem put_len (l : List Ent) (m : Msg) : (lfPut l m).length ≤ l.length + 1 := set_len _ _
theorem all_len : ∀ (ms : List Msg) (l : List Ent), (lfAll l ms).length ≤ l.length + ms.length
  | [], l => by simp [lfAll]
  | m :: ms, l => by
    have h1 := all_len ms (lfPut l m)
    have h2 := put_len l m
    simp only [lfAll, List.foldl_cons, List.length_cons] at h1 ⊢
    omega
end Go.Proofs.Ytofcabhahdecdaa

namespace Go.Proofs.Ytofcabhahdecdaa
open Go Go.RowKit
set_option linter.unusedVariables false
set_option linter.unusedSimpArgs false
set_option maxRecDepth 100000

def lfHit (k : Key) (l : List Ent) : Bool := match l[lfAt k l]? with
  | some e => decide (e.key = k)
  | none => false
theorem lfHit_at {k : Key} {l : List Ent} (hi : lfAt k l < l.length) : lfHit k l = decide (l[lfAt k l].key = k) := by
  unfold lfHit; rw [List.getElem?_eq_getElem hi]
theorem lfHit_end {k : Key} {l : List Ent} (hi : ¬ lfAt k l < l.length) : lfHit k l = false := by
  unfold lfHit; rw [List.getElem?_eq_none (by omega)]
def opL (o : Option Vl) : List AV := [(opA o).1.av, boolA (opA o).2]
attribute [local irreducible] OpOK AWops AW CondB Go2 AFn thenA inBlockA noGotoA orderOk wantedA
set_option maxRecDepth 100000 in
set_option maxHeartbeats 4000000 in
theorem a_leafplace (l : List Ent) (k : Key) (h : Srt l) (hl : l.length ≤ 1000000000) : AFn Try.prog 46 [entsA l, k.av] (.tup [intA (lfAt k l : Nat), boolA (lfHit k l)]) := by
  refine AFn_intro Try.func46 rfl Try.ntmps46 rfl (by simp) [_, _] rfl fun E hE => ?_
  have hle := lfAt_le k l
  refine wL ?_
  refine AW_loopI (fun j : Nat × Nat => ⟨[(0, entsA l), (3, .ptr 3 0 []), (6, .ptr 6 0 [])], [(3, .var k.av), (6, .var (.arr 2 1 [intA j.1, intA j.2]))]⟩) (fun j => j.1 ≤ lfAt k l ∧ lfAt k l ≤ j.2 ∧ j.2 ≤ l.length) (fun j => j.2 - j.1) (0, l.length) ⟨Nat.zero_le _, hle, Nat.le_refl _⟩ (by (refine Go2.sub ⟨?_, ?_, ?_⟩ <;> repeat' (first | exact True.intro | rfl | apply And.intro))) (fun j hj => ?_)
  obtain ⟨lo, hi⟩ := j
  obtain ⟨j1, j2, j3⟩ := hj
  dsimp only at j1 j2 j3 ⊢
  by_cases c : lo < hi
  · have hm : (lo + hi) / 2 < l.length := by omega
    have hit := lfAt_iff (k := k) h _ hm
    have c1 := acall Try.func51 (a_keycmp l[(lo + hi) / 2].key k) (by decide +kernel) (by decide +kernel)
    by_cases q : keyCmp l[(lo + hi) / 2].key k < 0
    · have q' := q
      rw [keyCmp_rank, sgn_neg] at q'
      refine wL ?_
      refine ⟨((lo + hi) / 2 + 1, hi), ⟨by dsimp only; omega, j2, j3⟩, by dsimp only; omega, ?_⟩
      (refine Go2.sub ⟨?_, ?_, ?_⟩ <;> repeat' (first | exact True.intro | rfl | apply And.intro))
    · have q' := q
      rw [keyCmp_rank, sgn_neg] at q'
      refine wL ?_
      refine ⟨(lo, (lo + hi) / 2), ⟨j1, by dsimp only; omega, by dsimp only; omega⟩, by dsimp only; omega, ?_⟩
      (refine Go2.sub ⟨?_, ?_, ?_⟩ <;> repeat' (first | exact True.intro | rfl | apply And.intro))
  · obtain rfl : lo = lfAt k l := by omega
    by_cases e : lfAt k l < l.length
    · rw [lfHit_at e]
      refine wL ?_
      exact fin ⟨res_of rfl rfl rfl, res_of rfl rfl rfl, trivial⟩
    · rw [lfHit_end e]
      refine wL ?_
      exact fin ⟨res_of rfl rfl rfl, res_of rfl rfl rfl, trivial⟩
set_option maxRecDepth 100000 in
set_option maxHeartbeats 4000000 in
theorem a_leaffind (l : List Ent) (k : Key) (h : Srt l) (hl : l.length ≤ 1000000000) : AFn Try.prog 34 [entsA l, k.av] (.tup [(opA (lfGet k l)).1.av, boolA (opA (lfGet k l)).2]) := by
  refine AFn_intro Try.func34 rfl Try.ntmps34 rfl (by simp) [_, _] rfl fun E hE => ?_
  have cp := a_leafplace l k h hl
  have hnt : (!true) = false := rfl
  have hnf : (!false) = true := rfl
  by_cases e : lfAt k l < l.length
  · by_cases q : l[lfAt k l].key = k
    · rw [lfHit_at e, decide_eq_true q] at cp
      rw [get_hit h e q]
      have c1 := acall Try.func46 (cp) (by decide +kernel) (by decide +kernel)
      refine wL ?_
      exact fin ⟨res_var rfl rfl rfl rfl, res_of rfl rfl rfl, trivial⟩
    · rw [lfHit_at e, decide_eq_false q] at cp
      rw [get_no h (fun _ => q)]
      have c1 := acall Try.func46 (cp) (by decide +kernel) (by decide +kernel)
      refine wL ?_
      exact fin ⟨res_var rfl rfl rfl rfl, res_of rfl rfl rfl, trivial⟩
  · rw [lfHit_end e] at cp
    rw [get_no h (fun hi => absurd hi e)]
    have c1 := acall Try.func46 (cp) (by decide +kernel) (by decide +kernel)
    refine wL ?_
    exact fin ⟨res_var rfl rfl rfl rfl, res_of rfl rfl rfl, trivial⟩
set_option maxRecDepth 100000 in
set_option maxHeartbeats 4000000 in
theorem a_ref07find (l : List Ent) (k : Key) (h : Srt l) (hl : l.length ≤ 1000000000) : AFn Try.prog 41 [entsA l, k.av] (.tup [(opA (lfGet k l)).1.av, boolA (opA (lfGet k l)).2]) := by
  refine AFn_intro Try.func41 rfl Try.ntmps41 rfl (by simp) [_, _] rfl fun E hE => ?_
  refine wL ?_
  refine AW_loopI (fun j : Nat => ⟨[(0, entsA l), (3, .ptr 3 0 []), (4, .ptr 4 0 []), (6, intA j)], [(3, .var k.av), (4, .var Vl.zero.av)]⟩) (fun j => j ≤ l.length ∧ ∀ i (hi : i < l.length), i < j → l[i].key ≠ k) (fun j => l.length - j) 0 ⟨Nat.zero_le _, fun i _ h => by omega⟩ (by (refine Go2.sub ⟨?_, ?_, ?_⟩ <;> repeat' (first | exact True.intro | rfl | apply And.intro))) (fun j hj => ?_)
  obtain ⟨j1, j2⟩ := hj
  by_cases c : j < l.length
  · by_cases q : l[j].key = k
    · rw [get_hit h c q]
      refine wL ?_
      exact fin ⟨res_var rfl rfl rfl rfl, res_of rfl rfl rfl, trivial⟩
    · refine wL ?_
      refine ⟨j + 1, ⟨c, fun i hi hij => ?_⟩, by omega, ?_⟩
      · by_cases e : i = j
        · subst e; exact q
        · exact j2 i hi (by omega)
      · (refine Go2.sub ⟨?_, ?_, ?_⟩ <;> repeat' (first | exact True.intro | rfl | apply And.intro))
  · rw [get_none (fun i hi => j2 i hi (by omega))]
    refine wL ?_
    exact fin ⟨res_var rfl rfl rfl rfl, res_of rfl rfl rfl, trivial⟩
end Go.Proofs.Ytofcabhahdecdaa

namespace Go.Proofs.Ytofcabhahdecdaa
open Go Go.RowKit
set_option linter.unusedVariables false
set_option linter.unusedSimpArgs false
set_option maxRecDepth 100000

/-- what the document's loop has put out behind j entries -/
def outP (l : List Ent) (p q : Nat) (new : List Ent) (j : Nat) : List Ent := l.take (min j p) ++ ((if p < j then new else []) ++ (l.take j).drop q)
theorem outP_zero (l : List Ent) (p q : Nat) (new : List Ent) : outP l p q new 0 = [] := by simp [outP]
theorem outP_lo {l : List Ent} {p q : Nat} {new : List Ent} {j : Nat} (hp : p ≤ q) (hj : j < p) (hl : j < l.length) : outP l p q new (j + 1) = outP l p q new j ++ [l[j]] := by
  unfold outP
  rw [if_neg (by omega), if_neg (by omega), Nat.min_eq_left (by omega), Nat.min_eq_left (by omega), List.drop_eq_nil_of_le (by simp; omega), List.drop_eq_nil_of_le (by simp; omega)]
  simp only [List.append_nil]
  exact (List.take_append_getElem hl).symm
theorem drop_take_snoc {l : List Ent} {q j : Nat} (hq : q ≤ j) (hl : j < l.length) : (l.take (j + 1)).drop q = (l.take j).drop q ++ [l[j]] := by
  rw [← List.take_append_getElem hl, List.drop_append_of_le_length (by simp; omega)]
theorem outP_no {l : List Ent} {p : Nat} {new : List Ent} (hl : p < l.length) : outP l p p new (p + 1) = (outP l p p new p ++ new) ++ [l[p]] := by
  unfold outP
  rw [if_pos (by omega), if_neg (by omega), Nat.min_eq_right (by omega), Nat.min_self, drop_take_snoc (Nat.le_refl _) hl, List.drop_eq_nil_of_le (by simp; omega)]
  simp
theorem outP_hit {l : List Ent} {p : Nat} {new : List Ent} (hl : p < l.length) : outP l p (p + 1) new (p + 1) = outP l p (p + 1) new p ++ new := by
  unfold outP
  rw [if_pos (by omega), if_neg (by omega), Nat.min_eq_right (by omega), Nat.min_self, List.drop_eq_nil_of_le (by simp; omega), List.drop_eq_nil_of_le (by simp; omega)]
  simp
theorem outP_hi {l : List Ent} {p q : Nat} {new : List Ent} {j : Nat} (hq : q ≤ j) (hj : p < j) (hl : j < l.length) : outP l p q new (j + 1) = outP l p q new j ++ [l[j]] := by
  unfold outP
  rw [if_pos (by omega), if_pos (by omega), Nat.min_eq_right (by omega), Nat.min_eq_right (by omega), drop_take_snoc hq hl]
  simp
theorem outP_end {l : List Ent} {p q : Nat} {new : List Ent} (hp : p < l.length) : outP l p q new l.length = l.take p ++ (new ++ l.drop q) := by
  unfold outP
  rw [if_pos hp, Nat.min_eq_right (by omega), List.take_length]
theorem outP_end' {l : List Ent} {p q : Nat} {new : List Ent} (hp : p = l.length) (hq : p ≤ q) : outP l p q new l.length ++ new = l.take p ++ (new ++ l.drop q) := by
  unfold outP
  rw [if_neg (by omega), Nat.min_eq_left (by omega), List.take_length, List.drop_eq_nil_of_le (by omega)]
  subst hp
  simp
theorem outP_len {l : List Ent} {p q : Nat} {new : List Ent} (j : Nat) (hn : new.length ≤ 1) : (outP l p q new j).length ≤ 2 * l.length + 1 := by
  unfold outP
  simp only [List.length_append, List.length_take, List.length_drop]
  split <;> simp <;> omega
attribute [local irreducible] OpOK AWops AW CondB Go2 AFn thenA inBlockA noGotoA orderOk wantedA
set_option maxRecDepth 100000 in
set_option maxHeartbeats 8000000 in
theorem a_ref07put (l : List Ent) (m : Msg) (h : Lf l) (hm : m.key.ok = true) (hl : l.length ≤ 1000000000) : AFn Try.prog 26 [entsA l, m.av] (entsA (lfPut l m)) := by
  refine AFn_intro Try.func26 rfl Try.ntmps26 rfl (by simp) [_] rfl fun E hE => ?_
  have c1 := a_ref07find l m.key h.srt hl
  have c2 := a_refapply (opA (lfGet m.key l)).1 (opA (lfGet m.key l)).2 m
  rw [applyM_ap] at c2
  unfold lfPut
  have d1 := acall Try.func41 (c1) (by decide +kernel) (by decide +kernel)
  have d2 := acall Try.func43 (c2) (by decide +kernel) (by decide +kernel)
  generalize ap m (lfGet m.key l) = r at d2 ⊢
  have hnt : (!true) = false := rfl
  have hnf : (!false) = true := rfl
  have hple := lfAt_le m.key l
  have hnl : (newE m.key r).length ≤ 1 := by unfold newE; cases r <;> simp
  obtain ⟨q, hq, hset, hcase⟩ : ∃ q, lfAt m.key l ≤ q ∧ lfSet l m.key r = l.take (lfAt m.key l) ++ (newE m.key r ++ l.drop q) ∧ ∀ (hi : lfAt m.key l < l.length), (q = lfAt m.key l + 1 ∧ refCmp l[lfAt m.key l].key m.key = 0) ∨ (q = lfAt m.key l ∧ 0 < refCmp l[lfAt m.key l].key m.key) := by
    by_cases e : ∃ hi : lfAt m.key l < l.length, l[lfAt m.key l].key = m.key
    · obtain ⟨hi, e⟩ := e
      exact ⟨_, Nat.le_succ _, set_hit h.srt r hi e, fun _ => .inl ⟨rfl, by rw [refCmp_rank (h.ok _ (List.getElem_mem hi)).1 hm, e, sgn_same]⟩⟩
    · refine ⟨_, Nat.le_refl _, set_no h hm r (fun hi e' => e ⟨hi, e'⟩), fun hi => .inr ⟨rfl, ?_⟩⟩
      have ho := (h.ok _ (List.getElem_mem hi)).1
      rw [refCmp_rank ho hm, sgn_pos]
      have h1 := (lfAt_iff (k := m.key) h.srt _ hi)
      have h2 : l[lfAt m.key l].key.rank ≠ m.key.rank := fun e' => e ⟨hi, (rank_inj ho hm).1 e'⟩
      omega
  rw [hset]
  have hlo : ∀ j (hj : j < l.length), j < lfAt m.key l → refCmp l[j].key m.key < 0 := fun j hj c => by
    rw [refCmp_rank (h.ok _ (List.getElem_mem hj)).1 hm, sgn_neg]; exact (lfAt_iff h.srt j hj).1 c
  have hhi : ∀ j (hj : j < l.length), lfAt m.key l < j → 0 < refCmp l[j].key m.key := fun j hj c => by
    rw [refCmp_rank (h.ok _ (List.getElem_mem hj)).1 hm, sgn_pos]
    have h1 := h.srt.lt (by omega) hj c
    have h2 := lfAt_iff (k := m.key) h.srt (lfAt m.key l) (by omega)
    omega
  generalize lfAt m.key l = p at hq hcase hlo hhi hple ⊢
  refine wB ?_
  refine AW_go (Go2.token 9 9 25 70 rfl rfl) ?_
  refine AW_loopI (fun j : Nat => ⟨[(0, entsA l), (3, .ptr 3 0 []), (7, .ptr 7 0 []), (8, boolA (opA r).2), (9, .sl (some 9) 26 ((outP l p q (newE m.key r) j).map Ent.av)), (10, boolA (decide (p < j))), (11, intA j)], [(3, .var m.av), (7, .var (opA r).1.av), (9, .tail 70 26 (outP l p q (newE m.key r) j).length)]⟩) (fun j => j ≤ l.length) (fun j => l.length - j) 0 (Nat.zero_le _) (by rw [outP_zero, decide_eq_false (Nat.not_lt_zero p)]; (refine Go2.sub ⟨?_, ?_, ?_⟩ <;> repeat' (first | exact True.intro | rfl | apply And.intro))) (fun j hj => ?_)
  have hol := outP_len (l := l) (p := p) (q := q) (new := newE m.key r) j hnl
  by_cases c : j < l.length
  · have d3 := acall Try.func40 (a_refcmp l[j].key m.key) (by decide +kernel) (by decide +kernel)
    rcases Nat.lt_trichotomy j p with c1 | c1 | c1
    · have hc := hlo j c c1
      have hs := outP_lo (new := newE m.key r) hq c1 c
      refine wB ?_
      refine ⟨j + 1, c, by omega, ?_⟩
      rw [hs, show decide (p < j + 1) = decide (p < j) from by rw [decide_eq_false (by omega), decide_eq_false (by omega)]]
      (refine Go2.sub ⟨?_, ?_, ?_⟩ <;> repeat' (first | exact True.intro | rfl | apply And.intro))
    · subst c1
      have hb : (!decide (j < j)) = true := by simp
      rcases hcase c with ⟨hqe, hc⟩ | ⟨hqe, hc⟩
      · subst hqe
        have hs := outP_hit (new := newE m.key r) c
        cases r with
        | none =>
          refine wB ?_
          refine ⟨j + 1, c, by omega, ?_⟩
          rw [hs, decide_eq_true (Nat.lt_succ_self j)]
          simp only [newE, List.append_nil]
          (refine Go2.sub ⟨?_, ?_, ?_⟩ <;> repeat' (first | exact True.intro | rfl | apply And.intro))
        | some v =>
          refine wB ?_
          refine ⟨j + 1, c, by omega, ?_⟩
          rw [hs, decide_eq_true (Nat.lt_succ_self j)]
          (refine Go2.sub ⟨?_, ?_, ?_⟩ <;> repeat' (first | exact True.intro | rfl | apply And.intro))
      · obtain rfl : j = q := hqe.symm
        have hs := outP_no (new := newE m.key r) c
        cases r with
        | none =>
          refine wB ?_
          refine ⟨j + 1, c, by omega, ?_⟩
          rw [hs, decide_eq_true (Nat.lt_succ_self j)]
          simp only [newE, List.append_nil]
          (refine Go2.sub ⟨?_, ?_, ?_⟩ <;> repeat' (first | exact True.intro | rfl | apply And.intro))
        | some v =>
          have hn1 : (outP l j j (newE m.key (some v)) j ++ ([⟨m.key, v⟩] : List Ent)).length ≤ 2 * l.length + 2 := by simp; omega
          refine wB ?_
          refine ⟨j + 1, c, by omega, ?_⟩
          rw [hs, decide_eq_true (Nat.lt_succ_self j)]
          (refine Go2.sub ⟨?_, ?_, ?_⟩ <;> repeat' (first | exact True.intro | rfl | apply And.intro))
    · have hc := hhi j c c1
      have hb : (!decide (p < j)) = false := by simp; omega
      have hqj : q ≤ j := by rcases hcase (by omega) with ⟨e, _⟩ | ⟨e, _⟩ <;> omega
      have hs := outP_hi (new := newE m.key r) hqj c1 c
      refine wB ?_
      refine ⟨j + 1, c, by omega, ?_⟩
      rw [hs, show decide (p < j + 1) = decide (p < j) from by rw [decide_eq_true (by omega), decide_eq_true (by omega)]]
      (refine Go2.sub ⟨?_, ?_, ?_⟩ <;> repeat' (first | exact True.intro | rfl | apply And.intro))
  · obtain rfl : j = l.length := by omega
    by_cases e : p < l.length
    · have hb : (!decide (p < l.length)) = false := by simp; omega
      rw [← outP_end e]
      refine wB ?_
      exact fin ⟨res_sl rfl, trivial⟩
    · have hb : (!decide (p < l.length)) = true := by simp; omega
      have hs := outP_end' (new := newE m.key r) (show p = l.length by omega) hq
      cases r with
      | none =>
        rw [← hs]
        simp only [newE, List.append_nil]
        refine wB ?_
        exact fin ⟨res_sl rfl, trivial⟩
      | some v =>
        rw [← hs]
        refine wB ?_
        exact fin ⟨res_sl rfl, trivial⟩
end Go.Proofs.Ytofcabhahdecdaa

namespace Go.Proofs.Ytofcabhahdecdaa
open Go Go.RowKit
set_option linter.unusedVariables false
set_option linter.unusedSimpArgs false
set_option maxRecDepth 100000

section
variable {E : Env} {nt : Nat} {ops : Array Oper} {T : Nat → Option AV} {H : Hp} {d : Option Nat} {ty : TypeId} {pos : String} {af : Array Edge} {gd : Option (Nat × Bool)}
theorem o_make0 {α : Type} (f : α → AV) {t e : TypeId} {es bytes : Nat} {ea : Bool} {x y : Operand} {k k' : IntKind} {n : Nat} {g : Nat} (hd : dOk nt (some g) = true) (hs : tabT.ti t = some (.sl e (es + 1) bytes ea)) (hx : evalO T x = some (.v (.int k 0))) (hy : evalO T y = some (.v (.int k' (n : Nat)))) (hg : H g = none) (hb : bytes * n ≤ 140737488355328) (hn : n ≤ 9223372036854775807) :
    OpOK Try.prog E nt ops ⟨some g, .makeSlice t x y, ty, pos, af, gd⟩ T H [] ⟨.sl (some g) (es + 1) (([] : List α).map f), [(g, .tail e (es + 1) ([] : List α).length)]⟩ := ok_make0 tabT hd hs hx hy hg hb hn
end
attribute [local irreducible] OpOK AWops AW CondB Go2 AFn thenA inBlockA noGotoA orderOk wantedA
set_option maxRecDepth 100000 in
set_option maxHeartbeats 8000000 in
theorem a_leafput (l : List Ent) (m : Msg) (h : Lf l) (hm : m.key.ok = true) (hk : 1 ≤ m.kind ∧ m.kind ≤ 3) (hl : l.length ≤ 1000000000) : AFn Try.prog 36 [entsA l, m.av] (entsA (lfPut l m)) := by
  refine AFn_intro Try.func36 rfl Try.ntmps36 rfl (by simp) [_] rfl fun E hE => ?_
  have c1 := a_leafplace l m.key h.srt hl
  have c2 := a_apply (opA (lfGet m.key l)).1 (opA (lfGet m.key l)).2 m hk
  rw [applyM_ap] at c2
  have hple := lfAt_le m.key l
  unfold lfPut
  by_cases e : ∃ hi : lfAt m.key l < l.length, l[lfAt m.key l].key = m.key
  · obtain ⟨hi, e⟩ := e
    rw [set_hit h.srt _ hi e]
    rw [get_hit h.srt hi e] at c2 ⊢
    rw [lfHit_at hi, decide_eq_true e] at c1
    have hd : (l.drop (lfAt m.key l + 1)).length ≤ l.length := by simp
    generalize lfAt m.key l = p at c1 hple hi e hd ⊢
    have d1 := acall Try.func46 (c1) (by decide +kernel) (by decide +kernel)
    have d2 := acall Try.func48 (c2) (by decide +kernel) (by decide +kernel)
    generalize ap m (some l[p].val) = r at d2 ⊢
    have hp : (l.take p).length ≤ l.length := by rw [List.length_take]; omega
    cases r with
    | none =>
      have d3 : ACall 48 [l[p].val.av, boolA true, m.av] (.tup [Vl.zero.av, boolA false]) := d2
      rw [show l.take p ++ (newE m.key none ++ l.drop (p + 1)) = ([] ++ l.take p) ++ l.drop (p + 1) from by simp [newE]]
      refine wL ?_
      (apply Wb; (focus (exact o_make0 Ent.av (n := l.length + 1) rfl rfl rfl rfl rfl (by omega) (by omega))); (focus (first | exact want_n | exact want_g rfl (by with_reducible rfl))))
      refine wL ?_
      exact fin ⟨res_sl rfl, trivial⟩
    | some v =>
      have d3 : ACall 48 [l[p].val.av, boolA true, m.av] (.tup [v.av, boolA true]) := d2
      rw [show l.take p ++ (newE m.key (some v) ++ l.drop (p + 1)) = (([] ++ l.take p) ++ [⟨m.key, v⟩]) ++ l.drop (p + 1) from by simp [newE]]
      refine wL ?_
      (apply Wb; (focus (exact o_make0 Ent.av (n := l.length + 1) rfl rfl rfl rfl rfl (by omega) (by omega))); (focus (first | exact want_n | exact want_g rfl (by with_reducible rfl))))
      refine wL ?_
      refine Was 55 (AV.sl (some 55) 26 [Ent.av ⟨m.key, v⟩]) rfl ?_
      refine wL ?_
      exact fin ⟨res_sl rfl, trivial⟩
  · have hn : ∀ hi : lfAt m.key l < l.length, l[lfAt m.key l].key ≠ m.key := fun hi e' => e ⟨hi, e'⟩
    rw [set_no h hm _ hn]
    rw [get_no h.srt hn] at c2 ⊢
    have c1' : AFn Try.prog 46 [entsA l, m.key.av] (.tup [intA (lfAt m.key l : Nat), boolA false]) := by
      by_cases hi : lfAt m.key l < l.length
      · rwa [lfHit_at hi, decide_eq_false (hn hi)] at c1
      · rwa [lfHit_end hi] at c1
    clear c1 hn e
    generalize lfAt m.key l = p at c1' hple ⊢
    have d1 := acall Try.func46 (c1') (by decide +kernel) (by decide +kernel)
    have d2 := acall Try.func48 (c2) (by decide +kernel) (by decide +kernel)
    generalize ap m none = r at d2 ⊢
    have hp : (l.take p).length ≤ l.length := by rw [List.length_take]; omega
    cases r with
    | none =>
      have d3 : ACall 48 [Vl.zero.av, boolA false, m.av] (.tup [Vl.zero.av, boolA false]) := d2
      rw [show l.take p ++ (newE m.key none ++ l.drop (p)) = ([] ++ l.take p) ++ l.drop (p) from by simp [newE]]
      refine wL ?_
      (apply Wb; (focus (exact o_make0 Ent.av (n := l.length + 1) rfl rfl rfl rfl rfl (by omega) (by omega))); (focus (first | exact want_n | exact want_g rfl (by with_reducible rfl))))
      refine wL ?_
      exact fin ⟨res_sl rfl, trivial⟩
    | some v =>
      have d3 : ACall 48 [Vl.zero.av, boolA false, m.av] (.tup [v.av, boolA true]) := d2
      rw [show l.take p ++ (newE m.key (some v) ++ l.drop (p)) = (([] ++ l.take p) ++ [⟨m.key, v⟩]) ++ l.drop (p) from by simp [newE]]
      refine wL ?_
      (apply Wb; (focus (exact o_make0 Ent.av (n := l.length + 1) rfl rfl rfl rfl rfl (by omega) (by omega))); (focus (first | exact want_n | exact want_g rfl (by with_reducible rfl))))
      refine wL ?_
      refine Was 55 (AV.sl (some 55) 26 [Ent.av ⟨m.key, v⟩]) rfl ?_
      refine wL ?_
      exact fin ⟨res_sl rfl, trivial⟩
end Go.Proofs.Ytofcabhahdecdaa

namespace Go.Proofs.Ytofcabhahdecdaa
open Go Go.RowKit
set_option linter.unusedVariables false
set_option linter.unusedSimpArgs false
set_option maxRecDepth 100000

section
variable {E : Env} {nt : Nat} {ops : Array Oper} {T : Nat → Option AV} {H : Hp} {d : Option Nat} {ty : TypeId} {pos : String} {af : Array Edge} {gd : Option (Nat × Bool)}
theorem wrap_u8' (n : Int) : IntKind.u8.wrap n = n % 256 := by simp [IntKind.wrap, IntKind.bits, IntKind.signed]
/-- an int as a byte -/
theorem o_convb {s t : TypeId} {x : Operand} {n : Int} (hs : ∃ u, Try.prog.underlying s = some u) (ht : Try.prog.underlying t = some (.int .u8)) (hd : dOk nt d = true) (hx : evalO T x = some (.v (.int .i64 n))) : OpOK Try.prog E nt ops ⟨d, .convert s t x, ty, pos, af, gd⟩ T H [] ⟨byteA (BitVec.ofInt 8 n), []⟩ :=
  ok_conv_i hs ht hd hx (by rw [B8_def, BitVec.toNat_ofInt, wrap_u8']; omega)
theorem o_convu {s t : TypeId} {x : Operand} {n : Int} (hs : ∃ u, Try.prog.underlying s = some u) (ht : Try.prog.underlying t = some (.int .u64)) (hd : dOk nt d = true) (hx : evalO T x = some (.v (.int .i64 n))) : OpOK Try.prog E nt ops ⟨d, .convert s t x, ty, pos, af, gd⟩ T H [] ⟨u64A (BitVec.ofInt 64 n), []⟩ :=
  ok_conv_i hs ht hd hx (by rw [D64_def, BitVec.toNat_ofInt, wrap_u64']; omega)
theorem D64_mul (x y : BitVec 64) : IntKind.u64.wrap (D64 x * D64 y) = D64 (x * y) := by
  rw [wrap_u64', D64_def, D64_def, D64_def, BitVec.toNat_mul, ← Int.natCast_mul]
  omega
theorem o_mulu {t t' : TypeId} {x y : Operand} {a : BitVec 64} {c : Int} (hd : dOk nt d = true) (hx : evalO T x = some (.v (.int .u64 (D64 a)))) (hy : evalO T y = some (.v (.int .u64 c))) (h0 : 0 ≤ c ∧ c < 18446744073709551616) : OpOK Try.prog E nt ops ⟨d, .binOp .mul t x y t', ty, pos, af, gd⟩ T H [] ⟨u64A (a * BitVec.ofInt 64 c), []⟩ := by
  have := D64_ofInt c h0.1 h0.2
  rw [← this] at hy
  exact ok_mul hd hx hy (D64_mul a _)
/-- a row of bytes as a string -/
theorem bytes_row {U : Uns} {w : World} {B : Blk} {H : Hp} : ∀ {l : List (BitVec 8)} {c : List Value}, Rdu U w 1 (l.map byteA) B H c → c = (l.map fun b => Int.ofNat b.toNat).map (Value.int .u8)
  | [], c, h => by simpa [Rdu] using h
  | b :: l, c, h => by
    simp only [List.map_cons, Rdu] at h
    obtain ⟨c1, c2, rfl, h1, h2, h3⟩ := h
    rw [bytes_row h3]
    simp only [byteA, Rd] at h2
    rw [h2.2, B8_def]
    simp
theorem foldl_push (l : List (BitVec 8)) : (l.map fun b => Int.ofNat b.toNat).foldl (fun r n => r.push (UInt8.ofNat n.toNat)) ByteArray.empty = bytesOf l := by
  have hf : ∀ (l : List (BitVec 8)) (s : ByteArray), ((l.map fun b => Int.ofNat b.toNat).foldl (fun r n => r.push (UInt8.ofNat n.toNat)) s) = ⟨s.data ++ (l.map fun b => UInt8.ofNat b.toNat).toArray⟩ := by
    intro l
    induction l with
    | nil => intro s; simp
    | cons x l ih =>
      intro s
      rw [List.map_cons, List.foldl_cons, ih]
      congr 1
      simp [ByteArray.push]
  rw [hf, bytesOf_def]
  congr 1
  simp only [ByteArray.empty, ByteArray.emptyWithCapacity]
  have hm : (l.map fun b => UInt8.ofNat b.toNat) = l.map UInt8.ofBitVec := List.map_congr_left fun b _ => by
    apply UInt8.eq_of_toBitVec_eq
    simp
  rw [hm]
  apply Array.ext'
  rw [Array.toList_append]
  rfl
theorem o_convs {s t e : TypeId} {x : Operand} {tok : Option Nat} {l : List (BitVec 8)} (hs : Try.prog.underlying s = some (.slice e)) (he : Try.prog.underlying e = some (.int .u8)) (ht : Try.prog.underlying t = some .string) (hd : dOk nt d = true) (hx : evalO T x = some (.sl tok 1 (l.map byteA))) : OpOK Try.prog E nt ops ⟨d, .convert s t x, ty, pos, af, gd⟩ T H [] ⟨.v (.string (bytesOf l)), []⟩ :=
  ok_val hd fun B T' H' a w r hto hh => by
    have h := Rdv_one (by simp) (r.eval ((hto x (by simp [Op.operands])).trans hx)) rfl
    simp only [Rd] at h
    obtain ⟨A, cap, h1, h2, h3, h4, _⟩ := h
    injection h1 with h1
    refine ⟨.string (bytesOf l), ?_, by rw [Rdv_v]; exact ⟨rfl, rfl⟩⟩
    have hcv := run_convert_bytes_string (P := Try.prog) w s t e A (l.map byteA).length cap hs he ht
    simp only [execOp, h1, hcv, Sem.run_bind]
    by_cases h0 : 0 < (l.map byteA).length
    · obtain ⟨b, off, c, rfl, k1, _, k3⟩ := h4 h0
      have hc := bytes_row k3
      rw [Nat.mul_one] at k1
      have hl := run_loadCells_row (P := Try.prog) k1
      rw [hc] at hl
      rw [run_bytesToString w _ _ cap _ hl, foldl_push]
      rfl
    · have hl0 : l = [] := by cases l with
        | nil => rfl
        | cons a l => simp at h0
      subst hl0
      have hlc : (loadCells ⟨0, 0, none⟩ 0).run Try.prog w = .ok #[] w := by simp [loadCells, loadCellsFrom]
      cases A with
      | none => simp [Conv.bytesToString, bytesOf_def]; rfl
      | some a =>
        have := run_bytesToString (P := Try.prog) w a 0 cap [] (by simp [loadCells, loadCellsFrom])
        rw [List.length_map, List.length_nil, this]
        simp [bytesOf_def]
        rfl
/-- a made row, as the image of a list -/
theorem o_make {α : Type} {f : α → AV} {x0 : α} {t e : TypeId} {es bytes : Nat} {ea : Bool} {x y : Operand} {k k' : IntKind} {n : Nat} {g : Nat} (hd : dOk nt (some g) = true) (hs : tabT.ti t = some (.sl e (es + 1) bytes ea)) (hz : zeroT e = some (f x0)) (hx : evalO T x = some (.v (.int k (n : Nat)))) (hy : evalO T y = some (.v (.int k' (n : Nat)))) (hg : H g = none) (hb : bytes * n ≤ 140737488355328) (hn : n ≤ 9223372036854775807) :
    OpOK Try.prog E nt ops ⟨some g, .makeSlice t x y, ty, pos, af, gd⟩ T H [] ⟨.seg g 0 (es + 1) [] n n, [(g, .var (.arr (n * (es + 1)) (es + 1) ((List.replicate n x0).map f)))]⟩ := by
  rw [List.map_replicate]
  exact ok_make tabT hd hs (zeroT_ok hz) hx hy hg hb hn
theorem o_idxs {x ix : Operand} {t e : TypeId} {es bytes : Nat} {ea : Bool} {g off len cap : Nat} {p : List Nat} {k : IntKind} {i : Nat} (hd : dOk nt d = true) (hs : tabT.ti t = some (.sl e es bytes ea)) (hx : evalO T x = some (.seg g off es p len cap)) (hi : evalO T ix = some (.v (.int k (i : Nat)))) (hl : i < len) :
    OpOK Try.prog E nt ops ⟨d, .indexAddr t x ix, ty, pos, af, gd⟩ T H [] ⟨.ptr g (off + i * es) (p ++ [i]), []⟩ := ok_idx_seg tabT hd hs hx hi hl
/-- an element of a made row stored -/
theorem o_stm {α : Type} {f : α → AV} {xs : List α} {b : α} {x y : Operand} {t : TypeId} {g m es i : Nat} (hx : evalO T x = some (.ptr g (0 + i * es) ([] ++ [i]))) (hy : evalO T y = some (f b)) (hg : H g = some (.var (.arr m es (xs.map f)))) (hi : i < xs.length)
    (hs : tabT.sa t = some (isAggA (f b), es)) (hsz : sizeA (f b) = es) (hsa : ∀ a, sizeA (f a) = es) (hdt : dataA (f b) = true) (hnt : notTup (f b) = true) :
    OpOK Try.prog E nt ops ⟨none, .store t x y, ty, pos, af, gd⟩ T H [] ⟨.tup [], [(g, .var (.arr m es ((xs.set i b).map f)))]⟩ := by
  have hsub : subA ([] ++ [i]) (.arr m es (xs.map f)) = some (f xs[i]) := by simp [subA, hi]
  have hoff : offA ([] ++ [i]) (.arr m es (xs.map f)) = 0 + i * es := by simp [offA]
  have hset : setA (f b) ([] ++ [i]) (.arr m es (xs.map f)) = some (.arr m es ((xs.set i b).map f)) := by simp [setA, hi, hdt, List.map_set]
  exact ok_store tabT (d := none) rfl hx hy hg hsub hoff hset (by rw [hsz]; exact hs) (by rw [hsz, hsa]) hnt
end
end Go.Proofs.Ytofcabhahdecdaa

namespace Go.Proofs.Ytofcabhahdecdaa
open Go Go.RowKit
set_option linter.unusedVariables false
set_option linter.unusedSimpArgs false
set_option maxRecDepth 100000

theorem a_lplace (v n : Int) (h0 : 0 < n) (h1 : n ≤ 9223372036854775807) (hv : -9223372036854775808 ≤ v ∧ v ≤ 9223372036854775807) : AFn Try.prog 11 [intA v, intA n] (intA (v % n)) := fun U w vs h => by
  obtain ⟨v1, us, rfl, k1, h⟩ := rdp_one h
  obtain ⟨v2, us, rfl, k2, h⟩ := rdp_one h
  obtain rfl := rdp_nil h
  rw [int_arg k1, int_arg k2]
  exact (lplace_any v n w h0 h1 hv).mono fun e w' ⟨q1, q2⟩ => ⟨_, q1, is_v (w := w) rfl, by rw [q2]; exact Ext.refl w⟩
end Go.Proofs.Ytofcabhahdecdaa

namespace Go.Proofs.Ytofcabhahdecdaa
open Go Go.RowKit
set_option linter.unusedVariables false
set_option linter.unusedSimpArgs false
set_option maxRecDepth 100000

def vByte (k i : Nat) : BitVec 8 := BitVec.ofInt 8 ((k : Int) / 17 + (i : Int) * ((k : Int) / 4352))
def vText (k : Nat) : List (BitVec 8) := (List.range (k % 17)).map (vByte k)
def lawVl (v : Int) : Vl := mkVl (vText (v % 1099511627776).toNat)
theorem vText_len (k : Nat) : (vText k).length = k % 17 := by simp [vText]
theorem lawVl_ok (v : Int) : (lawVl v).ok = true := mkVl_ok _ (by rw [vText_len]; omega)
/-- the row behind j bytes -/
def vRow (k j : Nat) : List (BitVec 8) := (vText k).take j ++ List.replicate (k % 17 - j) 0#8
theorem vRow_zero (k : Nat) : vRow k 0 = List.replicate (k % 17) 0#8 := by simp [vRow]
theorem vRow_end (k : Nat) : vRow k (k % 17) = vText k := by
  unfold vRow
  rw [List.take_of_length_le (by rw [vText_len]; exact Nat.le_refl _)]
  simp
theorem vRow_len (k j : Nat) (h : j ≤ k % 17) : (vRow k j).length = k % 17 := by
  unfold vRow
  rw [List.length_append, List.length_take, List.length_replicate, vText_len]
  omega
theorem vRow_set (k j : Nat) (h : j < k % 17) : (vRow k j).set j (vByte k j) = vRow k (j + 1) := by
  unfold vRow
  have hl : ((vText k).take j).length = j := by rw [List.length_take, vText_len]; omega
  rw [List.set_append, if_neg (by omega), hl, Nat.sub_self, show k % 17 - j = (k % 17 - (j + 1)) + 1 by omega, List.replicate_succ, List.set_cons_zero]
  rw [← List.take_append_getElem (show j < (vText k).length by rw [vText_len]; exact h)]
  simp [vText]
theorem a_refvlof (xs : List (BitVec 8)) (h : xs.length ≤ 16) : AFn Try.prog 42 [.v (.string (bytesOf xs))] (.tup [(mkVl xs).av, intA 0]) := fun U w vs hr => by
  obtain ⟨v1, us, rfl, h1, hr⟩ := rdp_one hr
  obtain rfl := rdp_nil hr
  rw [(Rdv_v.1 h1).2]
  have := refvlof_any xs w
  rw [if_pos h] at this
  exact ofIs this fun w' => by
    rw [Rdv_tup]
    refine ⟨[.agg (mkVl xs).arr, .int .i64 0], rfl, ?_⟩
    simp only [Rdp]
    exact ⟨(mkVl xs).arr.toList, [.int .i64 0], rfl, Vl.rd.2 rfl, [.int .i64 0], [], rfl, (rd_v rfl).2 rfl, rfl⟩
attribute [local irreducible] OpOK AWops AW CondB Go2 AFn thenA inBlockA noGotoA orderOk wantedA
set_option maxRecDepth 100000 in
set_option maxHeartbeats 4000000 in
theorem a_lval (v : Int) (hv : -9223372036854775808 ≤ v ∧ v ≤ 9223372036854775807) : AFn Try.prog 27 [intA v] (lawVl v).av := by
  refine AFn_intro Try.func27 rfl Try.ntmps27 rfl (by simp) [_] rfl fun E hE => ?_
  obtain ⟨k, hk⟩ : ∃ k : Nat, v % 1099511627776 = (k : Int) := ⟨(v % 1099511627776).toNat, by omega⟩
  have hlt : k < 1099511627776 := by omega
  have hlv : lawVl v = mkVl (vText k) := by unfold lawVl; rw [hk]; rfl
  rw [hlv]
  have c1 := a_lplace v 1099511627776 (by omega) (by omega) hv
  rw [hk] at c1
  have c2 := a_refvlof (vText k) (by rw [vText_len]; omega)
  have d1 := acall Try.func11 (c1) (by decide +kernel) (by decide +kernel)
  have d2 := acall Try.func42 (c2) (by decide +kernel) (by decide +kernel)
  refine wS ?_
  refine Wri 13 ((k % 17 : Nat) : Int) rfl (by omega) ?_
  refine wS ?_
  (apply Wb; (focus (exact o_make (f := byteA) (x0 := 0#8) (n := k % 17) rfl rfl rfl rfl rfl rfl (by omega) (by omega))); (focus (first | exact want_n | exact want_g rfl (by with_reducible rfl))))
  refine wS ?_
  refine AW_loopI (fun j : Nat => ⟨[(2, .ptr 2 0 []), (3, intA k), (4, intA (k % 17 : Nat)), (5, .seg 14 0 1 [] (k % 17) (k % 17)), (6, intA j)], [(2, .var Vl.zero.av), (14, .var (.arr (k % 17 * 1) 1 ((vRow k j).map byteA)))]⟩) (fun j => j ≤ k % 17) (fun j => k % 17 - j) 0 (Nat.zero_le _) (by rw [vRow_zero]; (refine Go2.sub ⟨?_, ?_, ?_⟩ <;> repeat' (first | exact True.intro | rfl | apply And.intro))) (fun j hj => ?_)
  by_cases c : j < k % 17
  · have hs := vRow_set k j c
    have hl := vRow_len k j hj
    have hm : (j : Int) * ((k : Int) / 4352) ≤ 17 * 252645136 := by
      have h1 : (j : Int) ≤ 17 := by omega
      have h2 : (k : Int) / 4352 ≤ 252645136 := by omega
      have h3 : 0 ≤ (k : Int) / 4352 := by omega
      exact Int.mul_le_mul h1 h2 h3 (by omega)
    have hm0 : 0 ≤ (j : Int) * ((k : Int) / 4352) := Int.mul_nonneg (by omega) (by omega)
    generalize hmm : (j : Int) * ((k : Int) / 4352) = mm at hm hm0
    refine wS ?_
    (apply Ws; (focus (exact o_stm (f := byteA) (b := vByte k j) rfl (by unfold vByte; rw [hmm]; rfl) rfl (by omega) rfl rfl (fun _ => rfl) rfl rfl)); (focus (first | exact want_n | exact want_g rfl (by with_reducible rfl))))
    refine wS ?_
    refine ⟨j + 1, by omega, by omega, ?_⟩
    (refine Go2.sub ⟨?_, ?_, ?_⟩ <;> repeat' (first | exact True.intro | rfl | apply And.intro))
    all_goals (rw [hs]; rfl)
  · obtain rfl : j = k % 17 := by omega
    rw [vRow_end]
    have hl := vText_len k
    refine AW_go (Go2.froz hE 14 rfl) ?_
    refine AW_go (Go2.seg 5 14 rfl rfl rfl rfl (by simp; omega)) ?_
    refine AW_go (Go2.as 5 (.sl none 1 ((vText k).map byteA)) (by rw [← hl, ← List.length_map (f := byteA), List.take_length]; rfl)) ?_
    refine wS ?_
    exact fin ⟨res_var rfl rfl rfl rfl, trivial⟩
/-- the laws' message by a number -/
def lawMsg (v seq : Int) : Msg :=
  let k := v % 1099511627776
  ⟨1 + k % 3, BitVec.ofInt 64 (seq % 1099511627776), lawKey (k / 4), if k % 3 = 0 then lawVl (k / 64) else Vl.zero, if k % 3 = 2 then BitVec.ofInt 64 (k / 1024) * BitVec.ofInt 64 65537 else 0#64⟩
theorem lawMsg_ok (v seq : Int) : (lawMsg v seq).ok = true := by
  have h0 := Int.emod_nonneg (v % 1099511627776) (show (3 : Int) ≠ 0 by omega)
  have h1 := Int.emod_lt_of_pos (v % 1099511627776) (show (0 : Int) < 3 by omega)
  unfold Msg.ok lawMsg
  simp only [lawKey_ok, Bool.and_true, Bool.and_eq_true, Bool.or_eq_true, decide_eq_true_eq]
  refine ⟨⟨⟨by omega, by omega⟩, ?_⟩, ?_⟩
  · by_cases c : v % 1099511627776 % 3 = 0
    · rw [if_pos (by omega), if_pos c]; exact lawVl_ok _
    · rw [if_neg (by omega), decide_eq_true_eq, if_neg c]
  · by_cases c : v % 1099511627776 % 3 = 2
    · exact .inl (by omega)
    · right; rw [if_neg c]
end Go.Proofs.Ytofcabhahdecdaa

namespace Go.Proofs.Ytofcabhahdecdaa
open Go Go.RowKit
set_option linter.unusedVariables false
set_option linter.unusedSimpArgs false
set_option maxRecDepth 100000

/-- a pointer to a variable that stays as it is -/
theorem Go2.ref {E : Env} {nt : Nat} {T : List (Nat × AV)} {H : List (Nat × Bx)} (s g : Nat) {x : AV} (hs : look s T = some (.ptr g 0 [])) (hg : look g H = some (.froz x)) (hd : dataA x = true) : Go2 E nt ⟨T, H⟩ ⟨(s, .ref x) :: T, H⟩ := fun B a w r => by
  refine ⟨B, r.nt, r.df, fun s' y hx => ?_, r.box, r.non, r.inj, r.left, r.keep⟩
  have eT : St.t ⟨(s, AV.ref x) :: T, H⟩ = upd (St.t ⟨T, H⟩) s (.ref x) := look_cons _ _ _
  rw [eT] at hx
  by_cases h : s' = s
  · subst h
    rw [upd_same] at hx
    injection hx with hx
    subst hx
    obtain ⟨v, h1, h2⟩ := r.tmp s' _ hs
    refine ⟨v, h1, ?_⟩
    have h3 := Rdv_one (by simp) h2 rfl
    simp only [Rd] at h3
    obtain ⟨_, b, k1, k4⟩ := h3
    injection k4 with k4
    subst k4
    obtain ⟨b', cs, q1, q2, q3, q4⟩ := r.box g _ hg
    rw [k1] at q1; injection q1 with q1; subst q1
    rw [Rdv_not (by simp)]
    exact ⟨[_], by simp only [Rd]; exact ⟨b, 0, cs, rfl, q2, q3, Rd_data x hd q4⟩, rfl⟩
  · rw [upd_ne _ _ h] at hx
    exact r.tmp s' y hx
theorem Rdp_append {U : Uns} {w : World} {B : Blk} {H : Hp} : ∀ {xs ys : List AV} {us vs : List Value}, Rdp U w xs B H us → Rdp U w ys B H vs → Rdp U w (xs ++ ys) B H (us ++ vs)
  | [], ys, us, vs, h1, h2 => by
    simp only [Rdp] at h1
    subst h1
    exact h2
  | x :: xs, ys, us, vs, h1, h2 => by
    simp only [Rdp] at h1
    obtain ⟨c, us', rfl, k1, k2⟩ := h1
    simp only [List.cons_append, Rdp]
    exact ⟨c, us' ++ vs, rfl, k1, Rdp_append k2 h2⟩
section
variable {P : Program} {E : Env} {nt : Nat} {ops : Array Oper} {T : Nat → Option AV} {H : Hp} {d : Option Nat} {ty : TypeId} {pos : String} {af : Array Edge} {gd : Option (Nat × Bool)}
theorem args_rdp {E : Env} {nt : Nat} {B : Blk} {T' : Nat → Option AV} {H' : Hp} {a : Act} {w : World} (r : Rel E nt B T' H' a w) : ∀ (l : List Operand) (zs : List AV), l.map (evalO T') = zs.map some → (∀ z ∈ zs, ∀ us, z ≠ .tup us) → Rdp (unst E B H') w zs B H' (l.map a.eval) := by
  intro l
  induction l with
  | nil =>
    intro zs h _
    have : zs = [] := by simpa using h.symm
    subst this
    simp [Rdp]
  | cons o l ih =>
    intro zs h hn
    cases zs with
    | nil => simp at h
    | cons z zs =>
      simp only [List.map_cons, List.cons.injEq] at h
      have ho := r.eval h.1
      rw [Rdv_not (hn z List.mem_cons_self)] at ho
      obtain ⟨c, h1, h2⟩ := ho
      simp only [List.map_cons, Rdp]
      exact ⟨c, _, by rw [h2], h1, ih zs h.2 (fun z hz => hn z (List.mem_cons_of_mem _ hz))⟩
theorem map_agree {T T' : Nat → Option AV} {l : List Operand} {zs : List AV} (h : l.map (evalO T) = zs.map some) (ht : ∀ y ∈ l, evalO T' y = evalO T y) : l.map (evalO T') = zs.map some := by
  rw [← h]
  exact List.map_congr_left ht
theorem ok_mkfn {f : FuncId} {l : List Operand} {xs : List AV} (hd : dOk nt d = true) (hx : l.map (evalO T) = xs.map some) (hnt : xs.all notTup = true) :
    OpOK P E nt ops ⟨d, .makeFunc (.func f) #[] l.toArray, ty, pos, af, gd⟩ T H [] ⟨.fn (.func f) [] xs, []⟩ :=
  ok_val hd fun B T' H' a w r ht hh => by
    have h1 := args_rdp r l xs (map_agree hx (fun y hy => ht y (by simp [Op.operands]; exact hy))) (fun z hz => notTup_ne (List.all_eq_true.1 hnt z hz))
    refine ⟨.func (.func f) #[] (l.map a.eval).toArray, ?_, ?_⟩
    · have hm : Array.map a.eval l.toArray = (l.map a.eval).toArray := by simp
      simp [execOp, Instr.makeFunc, hm]
    · rw [Rdv_not (by simp)]
      refine ⟨[_], ?_, rfl⟩
      simp only [Rd]
      exact ⟨[], _, rfl, by simp [Rdp], h1⟩
theorem ok_callv {f : FuncId} {fn : Func} {x : Operand} {l : List Operand} {ats : Array TypeId} {caps xs ys : List AV} {y : AV} (hd : dOk nt d = true) (hf : P.funcs[f]? = some fn) (hb : fn.body.isSome = true) (hnm : (fn.name == "runtime.NumGoroutine") = false)
    (hxf : evalO T x = some (.fn (.func f) [] caps)) (hcd : dataL caps = true) (hx : l.map (evalO T) = xs.map some) (hc : AFn P f (ys ++ caps) y) (hw : ∀ H', WkL H' xs ys) (hnt : xs.all notTup = true) : OpOK P E nt ops ⟨d, .call { callee := .value x, args := l.toArray, argTypes := ats }, ty, pos, af, gd⟩ T H [] ⟨y, []⟩ := by
  intro T' H' ht _ _ B a w r K Q hK
  have hxs := args_rdp r l xs (map_agree hx (fun y hy => agree_op ht (by simp [Op.operands, Call.operands]; exact .inr hy))) (fun z hz => notTup_ne (List.all_eq_true.1 hnt z hz))
  have hys := (hw H').rdp hxs
  have hfv := Rdv_one (by simp) (r.eval ((agree_op ht (x := x) (by simp [Op.operands, Call.operands])).trans hxf)) rfl
  simp only [Rd] at hfv
  obtain ⟨c1, c2, e1, e2, e3⟩ := hfv
  simp only [Rdp] at e2
  subst e2
  injection e1 with e1
  have h2 := hc _ w _ (Rdp_append hys (Rdp_data caps hcd e3))
  unfold Oper.wp
  have he : (execOp a.eval ⟨d, .call { callee := .value x, args := l.toArray, argTypes := ats }, ty, pos, af, gd⟩).run P w = .ok (.enter f (l.map a.eval ++ c2).toArray) w := by
    have hb' : fn.body ≠ none := by cases h : fn.body <;> simp_all
    have hn' : fn.name ≠ "runtime.NumGoroutine" := by simpa using hnm
    have ha : (l.map a.eval ++ c2).toArray = (l.toArray.map a.eval) ++ c2.toArray := by apply Array.ext'; simp
    rw [ha]
    simp [execOp, resolve, Deferred.ofValue, e1, invoke, callFunc, hf, hn', hb']
  rw [he]
  refine Calls.mono h2 ?_
  rintro e w' ⟨v, rfl, h3, h4⟩
  exact hK B _ w' ((r.ext h4).put hd (Rdv_free (Rdv_sub (fun b o h => ⟨r.unst_lt h, h⟩) h3)))
theorem ok_shr {t t' : TypeId} {x y : Operand} {k k' : IntKind} {a b c : Int} (hd : dOk nt d = true) (hx : evalO T x = some (.v (.int k a))) (hy : evalO T y = some (.v (.int k' b))) (h0 : 0 ≤ b) (hc : a.fdiv (2 ^ min b.toNat k.bits) = c) : OpOK P E nt ops ⟨d, .binOp .shr t x y t', ty, pos, af, gd⟩ T H [] ⟨.v (.int k c), []⟩ :=
  ok_bin hd hx hy (fun w => by subst hc; simp [eqGuard, binOp, Op.shift, show ¬ b < 0 by omega]) rfl
end
section
variable {E : Env} {nt : Nat} {ops : Array Oper} {T : Nat → Option AV} {H : Hp} {d : Option Nat} {ty : TypeId} {pos : String} {af : Array Edge} {gd : Option (Nat × Bool)}
theorem o_mkfn {f : FuncId} {l : List Operand} {xs : List AV} (hd : dOk nt d = true) (hx : argsA T l = some xs) (hnt : xs.all notTup = true) :
    OpOK Try.prog E nt ops ⟨d, .makeFunc (.func f) #[] l.toArray, ty, pos, af, gd⟩ T H [] ⟨.fn (.func f) [] xs, []⟩ := ok_mkfn hd (argsA_map hx) hnt
theorem o_callv {f : FuncId} {x : Operand} {l : List Operand} {ats : Array TypeId} {caps xs ys : List AV} {y : AV} (hd : dOk nt d = true) (hxf : evalO T x = some (.fn (.func f) [] caps)) (hcd : dataL caps = true) (hx : argsA T l = some xs) (hw : weakA xs = some ys) (hnt : xs.all notTup = true) (hc : ACall f (ys ++ caps) y) :
    OpOK Try.prog E nt ops ⟨d, .call { callee := .value x, args := l.toArray, argTypes := ats }, ty, pos, af, gd⟩ T H [] ⟨y, []⟩ := by
  obtain ⟨fn, h1, h2, h3, h4⟩ := hc
  exact ok_callv hd h1 h2 h3 hxf hcd (argsA_map hx) h4 (fun _ => weakA_wkl _ _ hw) hnt
/-- half of a number, by a shift -/
theorem o_shr1 {t t' : TypeId} {x y : Operand} {a : Nat} (hd : dOk nt d = true) (hx : evalO T x = some (.v (.int .u64 (a : Nat)))) (hy : evalO T y = some (.v (.int .u64 1))) : OpOK Try.prog E nt ops ⟨d, .binOp .shr t x y t', ty, pos, af, gd⟩ T H [] ⟨.v (.int .u64 ((a / 2 : Nat) : Int)), []⟩ :=
  ok_shr hd hx hy (by omega) (by
    rw [Int.fdiv_eq_ediv_of_nonneg _ (by decide)]
    show (a : Int) / 2 ^ min 1 64 = _
    norm_cast)
theorem o_cviu {s t : TypeId} {x : Operand} {n : Nat} (hs : ∃ u, Try.prog.underlying s = some u) (ht : Try.prog.underlying t = some (.int .u64)) (hd : dOk nt d = true) (hx : evalO T x = some (.v (.int .i64 (n : Nat)))) (hn : n ≤ 9223372036854775807) : OpOK Try.prog E nt ops ⟨d, .convert s t x, ty, pos, af, gd⟩ T H [] ⟨.v (.int .u64 (n : Nat)), []⟩ :=
  ok_conv_i hs ht hd hx (by simp [IntKind.wrap, IntKind.bits, IntKind.signed]; omega)
theorem o_cvui {s t : TypeId} {x : Operand} {n : Nat} (hs : ∃ u, Try.prog.underlying s = some u) (ht : Try.prog.underlying t = some (.int .i64)) (hd : dOk nt d = true) (hx : evalO T x = some (.v (.int .u64 (n : Nat)))) (hn : n ≤ 9223372036854775807) : OpOK Try.prog E nt ops ⟨d, .convert s t x, ty, pos, af, gd⟩ T H [] ⟨.v (.int .i64 (n : Nat)), []⟩ :=
  ok_conv_i hs ht hd hx (IntWalk.i64_in _ (by omega))
end
end Go.Proofs.Ytofcabhahdecdaa
