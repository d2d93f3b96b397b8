/-
  M3: several texts as one: AbsTac, AbsOwn, AbsCfn, AbsIn, AbsStep, AbsWord, AbsNode, AbsArr, AbsFnv, AbsCcall. No condition beyond those that each theorem states.
-/
import Derived.Test.YtphojngdgmnpaaaM2
import Derived.RangeFuncNested
import Derived.RangeFuncCalls
import Derived.RangeFuncLeaves
namespace Go.Proofs.Ytphojngdgmnpaaa
open Go Go.RowKit
set_option linter.unusedVariables false
set_option linter.unusedSimpArgs false
set_option maxRecDepth 100000

section
variable {P : Program} {E : Env} {nt : Nat} {S : St} {Q : Exit → St → Prop} {K : St → Prop}
theorem thenA_n (h : K S) : thenA K Q .normal S := h
theorem thenA_r (h : Q .ret S) : thenA K Q .ret S := h
theorem thenA_e {i : Nat} (h : Q (.exit i) S) : thenA K Q (.exit i) S := h
theorem blockA_n {i : Nat} (h : Q .normal S) : inBlockA i Q .normal S := h
theorem blockA_r {i : Nat} (h : Q .ret S) : inBlockA i Q .ret S := h
theorem blockA_h {i : Nat} (h : Q .normal S) : inBlockA i Q (.exit i) S := by simp only [inBlockA, if_true]; exact h
theorem blockA_e {i j : Nat} (hn : Nat.beq j i = false) (h : Q (.exit j) S) : inBlockA i Q (.exit j) S := by
  have : j ≠ i := fun e => by subst e; simp at hn
  simp only [inBlockA, if_neg this]; exact h
theorem scopeA_n (h : Q .normal S) : noGotoA Q .normal S := h
theorem scopeA_r (h : Q .ret S) : noGotoA Q .ret S := h
theorem scopeA_e {i : Nat} (h : Q (.exit i) S) : noGotoA Q (.exit i) S := h
theorem AW_reg {id : Nat} {l : List Oper} (h : AWops P E nt l.toArray l S [] (fun S' _ => Q .normal S')) : AW P E nt (.region id l.toArray false) S Q := AW_region (by simpa using h)
theorem AW_drw {id : Nat} {l : List Oper} (hm : P.follows .mixedOrders = true) (h : AWops P E nt l.toArray l S [] (fun S' rs => orderOk l.toArray rs = true ∧ Q .normal S')) : AW P E nt (.region id l.toArray true) S Q := AW_draw hm (by simpa using h)
theorem AW_t {c : Operand} {x y : Code} (hc : evalO S.t c = some (.v (.bool true))) (h : AW P E nt x S Q) : AW P E nt (.cond c x y) S Q := AW_cond true hc (fun _ => h) (fun h => by cases h)
theorem AW_f {c : Operand} {x y : Code} (hc : evalO S.t c = some (.v (.bool false))) (h : AW P E nt y S Q) : AW P E nt (.cond c x y) S Q := AW_cond false hc (fun h => by cases h) (fun _ => h)
theorem AW_yes {c : Operand} {x y : Code} {p : Prop} [Decidable p] (hc : evalO S.t c = some (.v (.bool (decide p)))) (hp : p) (h : AW P E nt x S Q) : AW P E nt (.cond c x y) S Q := AW_t (by rw [hc, decide_eq_true hp]) h
theorem AW_no {c : Operand} {x y : Code} {p : Prop} [Decidable p] (hc : evalO S.t c = some (.v (.bool (decide p)))) (hp : ¬ p) (h : AW P E nt y S Q) : AW P E nt (.cond c x y) S Q := AW_f (by rw [hc, decide_eq_false hp]) h
theorem AW_if {c : Operand} {x y : Code} {p : Prop} [Decidable p] (hc : evalO S.t c = some (.v (.bool (decide p)))) (h1 : p → AW P E nt x S Q) (h2 : ¬ p → AW P E nt y S Q) : AW P E nt (.cond c x y) S Q :=
  AW_cond _ hc (fun h => h1 (of_decide_eq_true h)) (fun h => h2 (of_decide_eq_false h))
theorem AW_is {c : Operand} {x y : Code} {b : Bool} (v : Bool) (hc : evalO S.t c = some (.v (.bool b))) (hb : b = v) (h : AW P E nt (if v then x else y) S Q) : AW P E nt (.cond c x y) S Q := by
  subst hb; exact AW_cond b hc (fun e => by subst e; exact h) (fun e => by subst e; exact h)
end
/-- a test's way, by what it came to -/
def CondB (P : Program) (E : Env) (nt : Nat) (b : Bool) (x y : Code) (S : St) (Q : Exit → St → Prop) : Prop := AW P E nt (if b then x else y) S Q
section
variable {P : Program} {E : Env} {nt : Nat} {S : St} {Q : Exit → St → Prop} {x y : Code}
theorem AW_c {c : Operand} {b : Bool} (hc : evalO S.t c = some (.v (.bool b))) (h : CondB P E nt b x y S Q) : AW P E nt (.cond c x y) S Q := AW_is b hc rfl h
theorem cb_t (h : AW P E nt x S Q) : CondB P E nt true x y S Q := h
theorem cb_f (h : AW P E nt y S Q) : CondB P E nt false x y S Q := h
theorem cb_yes {p : Prop} [Decidable p] (hp : p) (h : AW P E nt x S Q) : CondB P E nt (decide p) x y S Q := by
  unfold CondB; rw [decide_eq_true hp]; exact h
theorem cb_no {p : Prop} [Decidable p] (hp : ¬ p) (h : AW P E nt y S Q) : CondB P E nt (decide p) x y S Q := by
  unfold CondB; rw [decide_eq_false hp]; exact h
theorem cb_if {p : Prop} [Decidable p] (h1 : p → AW P E nt x S Q) (h2 : ¬ p → AW P E nt y S Q) : CondB P E nt (decide p) x y S Q := by
  by_cases hp : p
  · exact cb_yes hp (h1 hp)
  · exact cb_no hp (h2 hp)
theorem cb_b {b : Bool} (h1 : b = true → AW P E nt x S Q) (h2 : b = false → AW P E nt y S Q) : CondB P E nt b x y S Q := by
  cases b
  · exact h2 rfl
  · exact h1 rfl
theorem cb_is {b : Bool} (v : Bool) (hb : b = v) (h : CondB P E nt v x y S Q) : CondB P E nt b x y S Q := by subst hb; exact h
end
attribute [local irreducible] OpOK
theorem mixed : Try.prog.follows .mixedOrders = true := by kernel_rfl
section
variable {E : Env} {nt : Nat} {ops : Array Oper} {T : Nat → Option AV} {H : Hp} {d : Option Nat} {ty : TypeId} {pos : String} {af : Array Edge} {gd : Option (Nat × Bool)}
theorem o_len {x : Operand} {t e es bytes : Nat} {ea : Bool} {tok : Option Nat} {n : Nat} {xs : List AV} (hs : tabT.ti t = some (.sl e es bytes ea)) (hd : dOk nt d = true) (hx : evalO T x = some (.sl tok n xs)) :
    OpOK Try.prog E nt ops ⟨d, .call { callee := .builtin .len, args := #[x], argTypes := #[t] }, ty, pos, af, gd⟩ T H [] ⟨.v (.int .i64 xs.length), []⟩ := ok_len (tabT.ok t _ hs).2.1 hd hx
theorem o_lenm {α : Type} {f : α → AV} {x : Operand} {t e es bytes : Nat} {ea : Bool} {tok : Option Nat} {n : Nat} {xs : List α} (hs : tabT.ti t = some (.sl e es bytes ea)) (hd : dOk nt d = true) (hx : evalO T x = some (.sl tok n (xs.map f))) :
    OpOK Try.prog E nt ops ⟨d, .call { callee := .builtin .len, args := #[x], argTypes := #[t] }, ty, pos, af, gd⟩ T H [] ⟨.v (.int .i64 xs.length), []⟩ := by
  have := o_len (E := E) (ops := ops) (H := H) (ty := ty) (pos := pos) (af := af) (gd := gd) hs hd hx
  rwa [List.length_map] at this
theorem o_len0 {x : Operand} {t e es bytes : Nat} {ea : Bool} (hs : tabT.ti t = some (.sl e es bytes ea)) (hd : dOk nt d = true) (hx : evalO T x = some (.v (.slice none 0 0))) :
    OpOK Try.prog E nt ops ⟨d, .call { callee := .builtin .len, args := #[x], argTypes := #[t] }, ty, pos, af, gd⟩ T H [] ⟨.v (.int .i64 0), []⟩ := ok_len_nil (tabT.ok t _ hs).2.1 hd hx
theorem o_lens {x : Operand} {t e es bytes : Nat} {ea : Bool} {g off n len cap : Nat} {p : List Nat} (hs : tabT.ti t = some (.sl e es bytes ea)) (hd : dOk nt d = true) (hx : evalO T x = some (.seg g off n p len cap)) :
    OpOK Try.prog E nt ops ⟨d, .call { callee := .builtin .len, args := #[x], argTypes := #[t] }, ty, pos, af, gd⟩ T H [] ⟨.v (.int .i64 len), []⟩ := ok_len_seg (tabT.ok t _ hs).2.1 hd hx
theorem o_lent {x : Operand} {s : ByteArray} (hd : dOk nt d = true) (hx : evalO T x = some (.v (.string s))) :
    OpOK Try.prog E nt ops ⟨d, .call { callee := .builtin .len, args := #[x], argTypes := #[9] }, ty, pos, af, gd⟩ T H [] ⟨.v (.int .i64 s.size), []⟩ := ok_len_str Try.underlying9 hd hx
theorem o_add {t t' : TypeId} {x y : Operand} {a b : Int} (hd : dOk nt d = true) (hx : evalO T x = some (.v (.int .i64 a))) (hy : evalO T y = some (.v (.int .i64 b))) (h : -9223372036854775808 ≤ a + b ∧ a + b ≤ 9223372036854775807) : OpOK Try.prog E nt ops ⟨d, .binOp .add t x y t', ty, pos, af, gd⟩ T H [] ⟨.v (.int .i64 (a + b)), []⟩ := ok_add hd hx hy (i64_add h)
theorem o_add1 {t t' : TypeId} {x y : Operand} {a : Nat} (hd : dOk nt d = true) (hx : evalO T x = some (.v (.int .i64 (a : Nat)))) (hy : evalO T y = some (.v (.int .i64 1))) (h : a + 1 ≤ 9223372036854775807) : OpOK Try.prog E nt ops ⟨d, .binOp .add t x y t', ty, pos, af, gd⟩ T H [] ⟨.v (.int .i64 ((a + 1 : Nat) : Int)), []⟩ := o_add hd hx hy (by omega)
theorem o_addn {t t' : TypeId} {x y : Operand} {a b : Nat} (hd : dOk nt d = true) (hx : evalO T x = some (.v (.int .i64 (a : Nat)))) (hy : evalO T y = some (.v (.int .i64 (b : Nat)))) (h : a + b ≤ 9223372036854775807) : OpOK Try.prog E nt ops ⟨d, .binOp .add t x y t', ty, pos, af, gd⟩ T H [] ⟨.v (.int .i64 ((a + b : Nat) : Int)), []⟩ := o_add hd hx hy (by omega)
theorem o_sub {t t' : TypeId} {x y : Operand} {a b : Int} (hd : dOk nt d = true) (hx : evalO T x = some (.v (.int .i64 a))) (hy : evalO T y = some (.v (.int .i64 b))) (h : -9223372036854775808 ≤ a - b ∧ a - b ≤ 9223372036854775807) : OpOK Try.prog E nt ops ⟨d, .binOp .sub t x y t', ty, pos, af, gd⟩ T H [] ⟨.v (.int .i64 (a - b)), []⟩ := ok_sub hd hx hy (i64_sub h)
theorem o_mul {t t' : TypeId} {x y : Operand} {a b : Int} (hd : dOk nt d = true) (hx : evalO T x = some (.v (.int .i64 a))) (hy : evalO T y = some (.v (.int .i64 b))) (h : -9223372036854775808 ≤ a * b ∧ a * b ≤ 9223372036854775807) : OpOK Try.prog E nt ops ⟨d, .binOp .mul t x y t', ty, pos, af, gd⟩ T H [] ⟨.v (.int .i64 (a * b)), []⟩ := ok_mul hd hx hy (i64_mul h)
theorem o_quo {t t' : TypeId} {x y : Operand} {a b : Int} (hd : dOk nt d = true) (hx : evalO T x = some (.v (.int .i64 a))) (hy : evalO T y = some (.v (.int .i64 b))) (h : 0 ≤ a ∧ a ≤ 9223372036854775807 ∧ 1 ≤ b) : OpOK Try.prog E nt ops ⟨d, .binOp .quo t x y t', ty, pos, af, gd⟩ T H [] ⟨.v (.int .i64 (a / b)), []⟩ := ok_quo hd hx hy (by omega) (i64_quo h)
theorem o_rem {t t' : TypeId} {x y : Operand} {a b : Int} (hd : dOk nt d = true) (hx : evalO T x = some (.v (.int .i64 a))) (hy : evalO T y = some (.v (.int .i64 b))) (h : 0 ≤ a ∧ 1 ≤ b) : OpOK Try.prog E nt ops ⟨d, .binOp .rem t x y t', ty, pos, af, gd⟩ T H [] ⟨.v (.int .i64 (a % b)), []⟩ := ok_rem hd hx hy (by omega) (i64_rem h.1)
theorem o_box {e : TypeId} {x : Operand} {z : AV} {g : Nat} (hd : dOk nt (some g) = true) (hx : evalO T x = some z) (hnt : notTup z = true) (hg : H g = none) : OpOK Try.prog E nt ops ⟨some g, .box e x, ty, pos, af, gd⟩ T H [] ⟨.ptr g 0 [], [(g, .var z)]⟩ := ok_box hd hx hnt hg


theorem o_alloc {e : TypeId} {z : AV} {g : Nat} (hz : ZeroOk Try.prog e z) (hd : dOk nt (some g) = true) (hg : H g = none) : OpOK Try.prog E nt ops ⟨some g, .alloc e, ty, pos, af, gd⟩ T H [] ⟨.ptr g 0 [], [(g, .var z)]⟩ := by
  have h := @ok_alloc Try.prog E nt ops T H (some g) ty pos af gd e z g hd hz hg
  with_reducible exact h
/-- an element of a slice that is a list's image -/
theorem o_idx {α : Type} {f : α → AV} {x ix : Operand} {t e : TypeId} {es bytes : Nat} {ea : Bool} {tok : Option Nat} {xs : List α} {k : IntKind} {i : Nat} (hd : dOk nt d = true) (hs : tabT.ti t = some (.sl e es bytes ea)) (hx : evalO T x = some (.sl tok es (xs.map f))) (hi : evalO T ix = some (.v (.int k (i : Nat))))
    (hl : i < xs.length) : OpOK Try.prog E nt ops ⟨d, .indexAddr t x ix, ty, pos, af, gd⟩ T H [] ⟨.ref (f xs[i]), []⟩ :=
  ok_idx_sl tabT hd hs hx hi (Int.natCast_nonneg i) (by simp [hl])
theorem o_idxi {α : Type} {f : α → AV} {x ix : Operand} {t e : TypeId} {es bytes : Nat} {ea : Bool} {tok : Option Nat} {xs : List α} {k : IntKind} {n : Int} (i : Nat) (hd : dOk nt d = true) (hs : tabT.ti t = some (.sl e es bytes ea)) (hx : evalO T x = some (.sl tok es (xs.map f))) (hi : evalO T ix = some (.v (.int k n)))
    (hn : n = (i : Int)) (hl : i < xs.length) : OpOK Try.prog E nt ops ⟨d, .indexAddr t x ix, ty, pos, af, gd⟩ T H [] ⟨.ref (f xs[i]), []⟩ := by
  subst hn; exact o_idx hd hs hx hi hl
end
theorem wkl0 {H : Hp} : WkL H [] [] := .nil
theorem wkd {H : Hp} {x : AV} {xs ys : List AV} (hx : dataA x = true) (h : WkL H xs ys) : WkL H (x :: xs) (x :: ys) := .cons (Wk.data hx) h
theorem wkt {H : Hp} {t : Option Nat} {n : Nat} {zs : List AV} {xs ys : List AV} (h : WkL H xs ys) : WkL H (.sl t n zs :: xs) (.sl none n zs :: ys) := .cons Wk.tok h
theorem wkn {H : Hp} {n : Nat} {xs ys : List AV} (h : WkL H xs ys) : WkL H (.v (.slice none 0 0) :: xs) (.sl none n [] :: ys) := .cons Wk.nil h
section
variable {E : Env} {nt : Nat} {ops : Array Oper} {T : Nat → Option AV} {H : Hp} {d : Option Nat} {ty : TypeId} {pos : String} {af : Array Edge} {gd : Option (Nat × Bool)}
theorem o_call0 {f : FuncId} {fn : Func} {l : List Operand} {ats : Array TypeId} {xs ys : List AV} {y : AV} (hf : Try.prog.funcs[f]? = some fn) (hc : AFn Try.prog f ys y) (hb : fn.body.isSome = true) (hnm : (fn.name == "runtime.NumGoroutine") = false) (hd : dOk nt d = true)
    (hx : l.map (evalO T) = xs.map some) (hw : ∀ H', WkL H' xs ys) (hnt : xs.all notTup = true) : OpOK Try.prog E nt ops ⟨d, .call { callee := .value (.func f), args := l.toArray, argTypes := ats }, ty, pos, af, gd⟩ T H [] ⟨y, []⟩ :=
  ok_call hd hf hb hnm (by simpa using hx) hc hw hnt
def argsA (T : Nat → Option AV) : List Operand → Option (List AV)
  | [] => some []
  | x :: l => match evalO T x, argsA T l with
    | some v, some vs => some (v :: vs)
    | _, _ => none
theorem argsA_map {T : Nat → Option AV} : ∀ {l : List Operand} {xs : List AV}, argsA T l = some xs → l.map (evalO T) = xs.map some
  | [], xs, h => by simp only [argsA] at h; injection h with h; subst h; rfl
  | x :: l, xs, h => by
    simp only [argsA] at h
    split at h
    · rename_i v vs h1 h2
      injection h with h; subst h
      simp only [List.map_cons, h1, argsA_map h2]
    · cases h
theorem o_call {f : FuncId} {fn : Func} {l : List Operand} {ats : Array TypeId} {xs ys : List AV} {y : AV} (hf : Try.prog.funcs[f]? = some fn) (hc : AFn Try.prog f ys y) (hb : fn.body.isSome = true) (hnm : (fn.name == "runtime.NumGoroutine") = false) (hd : dOk nt d = true)
    (hx : argsA T l = some xs) (hw : ∀ H', WkL H' xs ys) (hnt : xs.all notTup = true) : OpOK Try.prog E nt ops ⟨d, .call { callee := .value (.func f), args := l.toArray, argTypes := ats }, ty, pos, af, gd⟩ T H [] ⟨y, []⟩ := o_call0 hf hc hb hnm hd (argsA_map hx) hw hnt
end
section
variable {E : Env} {nt : Nat} {ops : Array Oper} {T : Nat → Option AV} {H : Hp} {d : Option Nat} {ty : TypeId} {pos : String} {af : Array Edge} {gd : Option (Nat × Bool)}
theorem o_minn {x y : Operand} {t t' : TypeId} {k : IntKind} {p q : Nat} (hd : dOk nt d = true) (hx : evalO T x = some (.v (.int k (p : Nat)))) (hy : evalO T y = some (.v (.int k (q : Nat)))) :
    OpOK Try.prog E nt ops ⟨d, .call { callee := .builtin .min, args := #[x, y], argTypes := #[t, t'] }, ty, pos, af, gd⟩ T H [] ⟨.v (.int k (min p q : Nat)), []⟩ := by
  have h := ok_min (P := Try.prog) (E := E) (ops := ops) (H := H) (ty := ty) (pos := pos) (af := af) (gd := gd) (t := t) (t' := t') hd hx hy
  have e : (if (q : Int) < p then (q : Int) else p) = ((min p q : Nat) : Int) := by split <;> omega
  rwa [e] at h
end
/-- where a walk stands (for looking alone) -/
def StuckOp (T : List (Nat × AV)) (H : List (Nat × Bx)) (o : Op) (gd : Option (Nat × Bool)) : Prop := False
theorem stuck_op {P : Program} {E : Env} {nt : Nat} {ops : Array Oper} {l : List Oper} {T : List (Nat × AV)} {H : List (Nat × Bx)} {rs : List Rec} {K : St → List Rec → Prop} {o : Oper} (h : StuckOp T H o.op o.guard) : AWops P E nt ops (o :: l) ⟨T, H⟩ rs K := h.elim
def StuckC (b : Bool) (S : St) : Prop := False
theorem stuck_c {P : Program} {E : Env} {nt : Nat} {b : Bool} {x y : Code} {S : St} {Q : Exit → St → Prop} (h : StuckC b S) : CondB P E nt b x y S Q := h.elim
def StuckW (S : St) : Prop := False
theorem stuck_w {P : Program} {E : Env} {nt : Nat} {x : Code} {S : St} {Q : Exit → St → Prop} (h : StuckW S) : AW P E nt x S Q := h.elim
theorem b_nt : true = !false := rfl
theorem b_nf : false = !true := rfl
section
variable {E : Env} {nt : Nat} {ops : Array Oper} {T : Nat → Option AV} {H : Hp} {d : Option Nat} {ty : TypeId} {pos : String} {af : Array Edge} {gd : Option (Nat × Bool)}
theorem o_eqd {α : Type} [DecidableEq α] (D : DT α) (heq : ∀ (a b : α) (w : World), (binOp .eql D.t (.agg (D.arr a)) (.agg (D.arr b))).run Try.prog w = .ok (.bool (decide (a = b))) w) (hg : Try.prog.eqGuardType Try.prog.depth D.t = false) {t' : TypeId} {x y : Operand} {a b : α} (hd : dOk nt d = true) (hx : evalO T x = some (D.av a)) (hy : evalO T y = some (D.av b)) :
    OpOK Try.prog E nt ops ⟨d, .binOp .eql D.t x y t', ty, pos, af, gd⟩ T H [] ⟨.v (.bool (decide (a = b))), []⟩ :=
  ok_val hd fun B T' H' A w r ht hh => ⟨.bool (decide (a = b)), by
    have h1 := D.rdv.1 (r.eval ((ht x (by simp [Op.operands])).trans hx))
    have h2 := D.rdv.1 (r.eval ((ht y (by simp [Op.operands])).trans hy))
    simp only [execOp, h1, h2, Sem.run_bind, heq a b w]
    simp [eqGuard, hg, heq a b w], by rw [Rdv_v]; exact ⟨rfl, rfl⟩⟩
theorem o_ned {α : Type} [DecidableEq α] (D : DT α) (heq : ∀ (a b : α) (w : World), (binOp .neq D.t (.agg (D.arr a)) (.agg (D.arr b))).run Try.prog w = .ok (.bool (!decide (a = b))) w) (hg : Try.prog.eqGuardType Try.prog.depth D.t = false) {t' : TypeId} {x y : Operand} {a b : α} (hd : dOk nt d = true) (hx : evalO T x = some (D.av a)) (hy : evalO T y = some (D.av b)) :
    OpOK Try.prog E nt ops ⟨d, .binOp .neq D.t x y t', ty, pos, af, gd⟩ T H [] ⟨.v (.bool (decide (a ≠ b))), []⟩ :=
  ok_val hd fun B T' H' A w r ht hh => ⟨.bool (decide (a ≠ b)), by
    have h1 := D.rdv.1 (r.eval ((ht x (by simp [Op.operands])).trans hx))
    have h2 := D.rdv.1 (r.eval ((ht y (by simp [Op.operands])).trans hy))
    have e : (!decide (a = b)) = decide (a ≠ b) := by simp
    simp only [execOp, h1, h2, Sem.run_bind, heq a b w, e]
    simp [eqGuard, hg, heq a b w], by rw [Rdv_v]; exact ⟨rfl, rfl⟩⟩
theorem o_eqKey {t' : TypeId} {x y : Operand} {a b : Key} (hd : dOk nt d = true) (hx : evalO T x = some a.av) (hy : evalO T y = some b.av) : OpOK Try.prog E nt ops ⟨d, .binOp .eql 93 x y t', ty, pos, af, gd⟩ T H [] ⟨.v (.bool (decide (a = b))), []⟩ := o_eqd dKey Key.eql Key.eqG hd hx hy
theorem o_neKey {t' : TypeId} {x y : Operand} {a b : Key} (hd : dOk nt d = true) (hx : evalO T x = some a.av) (hy : evalO T y = some b.av) : OpOK Try.prog E nt ops ⟨d, .binOp .neq 93 x y t', ty, pos, af, gd⟩ T H [] ⟨.v (.bool (decide (a ≠ b))), []⟩ := o_ned dKey Key.neq Key.eqG hd hx hy
theorem o_eqVl {t' : TypeId} {x y : Operand} {a b : Vl} (hd : dOk nt d = true) (hx : evalO T x = some a.av) (hy : evalO T y = some b.av) : OpOK Try.prog E nt ops ⟨d, .binOp .eql 42 x y t', ty, pos, af, gd⟩ T H [] ⟨.v (.bool (decide (a = b))), []⟩ := o_eqd dVl Vl.eql Vl.eqG hd hx hy
theorem o_neVl {t' : TypeId} {x y : Operand} {a b : Vl} (hd : dOk nt d = true) (hx : evalO T x = some a.av) (hy : evalO T y = some b.av) : OpOK Try.prog E nt ops ⟨d, .binOp .neq 42 x y t', ty, pos, af, gd⟩ T H [] ⟨.v (.bool (decide (a ≠ b))), []⟩ := o_ned dVl Vl.neq Vl.eqG hd hx hy
theorem o_eqEnt {t' : TypeId} {x y : Operand} {a b : Ent} (hd : dOk nt d = true) (hx : evalO T x = some a.av) (hy : evalO T y = some b.av) : OpOK Try.prog E nt ops ⟨d, .binOp .eql 97 x y t', ty, pos, af, gd⟩ T H [] ⟨.v (.bool (decide (a = b))), []⟩ := o_eqd dEnt Ent.eql Ent.eqG hd hx hy
theorem o_neEnt {t' : TypeId} {x y : Operand} {a b : Ent} (hd : dOk nt d = true) (hx : evalO T x = some a.av) (hy : evalO T y = some b.av) : OpOK Try.prog E nt ops ⟨d, .binOp .neq 97 x y t', ty, pos, af, gd⟩ T H [] ⟨.v (.bool (decide (a ≠ b))), []⟩ := o_ned dEnt Ent.neq Ent.eqG hd hx hy
theorem o_eqMsg {t' : TypeId} {x y : Operand} {a b : Msg} (hd : dOk nt d = true) (hx : evalO T x = some a.av) (hy : evalO T y = some b.av) : OpOK Try.prog E nt ops ⟨d, .binOp .eql 112 x y t', ty, pos, af, gd⟩ T H [] ⟨.v (.bool (decide (a = b))), []⟩ := o_eqd dMsg Msg.eql Msg.eqG hd hx hy
theorem o_neMsg {t' : TypeId} {x y : Operand} {a b : Msg} (hd : dOk nt d = true) (hx : evalO T x = some a.av) (hy : evalO T y = some b.av) : OpOK Try.prog E nt ops ⟨d, .binOp .neq 112 x y t', ty, pos, af, gd⟩ T H [] ⟨.v (.bool (decide (a ≠ b))), []⟩ := o_ned dMsg Msg.neq Msg.eqG hd hx hy
/-- append onto a row of images -/
theorem o_app {α : Type} {f : α → AV} {s x : Operand} {t tx e : TypeId} {es bytes : Nat} {ea : Bool} {tk : Nat} {xs zs : List α} {src : AV} (hd : dOk nt d = true) (hs : tabT.ti t = some (.sl e es bytes ea)) (hx : evalO T s = some (.sl (some tk) es (xs.map f))) (hg : H tk = some (.tail e es xs.length))
    (hy : evalO T x = some src) (hsrc : SrcOf Try.prog tx es src (zs.map f)) (hlen : (xs.length + zs.length) * bytes ≤ 140737488355328) (hlen2 : xs.length + zs.length ≤ 9223372036854775807) :
    OpOK Try.prog E nt ops ⟨d, .call { callee := .builtin .append, args := #[s, x], argTypes := #[t, tx] }, ty, pos, af, gd⟩ T H [tk] ⟨.sl (some tk) es ((xs ++ zs).map f), [(tk, .tail e es (xs ++ zs).length)]⟩ := by
  have := ok_append tabT (E := E) (ops := ops) (H := H) (ty := ty) (pos := pos) (af := af) (gd := gd) hd hs hx (by rw [List.length_map]; exact hg) hy hsrc (by simpa using hlen) (by simpa using hlen2)
  rw [← List.map_append, List.length_map, List.length_map, ← List.length_append] at this
  exact this
/-- one element more: a new row of one is laid, and appended -/
theorem o_one {α : Type} (f : α → AV) (x : α) {tx e : TypeId} {es bytes : Nat} {ea : Bool} {tok : Option Nat} (hs : tabT.ti tx = some (.sl e es bytes ea)) : SrcOf Try.prog tx es (.sl tok es [f x]) ([x].map f) := src_sl tabT hs
theorem o_many {α : Type} {f : α → AV} {xs : List α} {tx e : TypeId} {es bytes : Nat} {ea : Bool} {tok : Option Nat} (hs : tabT.ti tx = some (.sl e es bytes ea)) : SrcOf Try.prog tx es (.sl tok es (xs.map f)) (xs.map f) := src_sl tabT hs
theorem o_none {α : Type} {f : α → AV} {tx e : TypeId} {es bytes n : Nat} {ea : Bool} (hs : tabT.ti tx = some (.sl e es bytes ea)) : SrcOf Try.prog tx n (.v (.slice none 0 0)) (([] : List α).map f) := src_nil tabT hs
theorem o_app0 {α : Type} {f : α → AV} {s x : Operand} {t tx e : TypeId} {es bytes : Nat} {ea : Bool} {tk : Nat} {zs : List α} {src : AV} (hd : dOk nt (some tk) = true) (hs : tabT.ti t = some (.sl e (es + 1) bytes ea)) (hx : evalO T s = some (.v (.slice none 0 0))) (hg : H tk = none)
    (hy : evalO T x = some src) (hsrc : SrcOf Try.prog tx (es + 1) src (zs.map f)) (hlen : zs.length * bytes ≤ 140737488355328) (hlen2 : zs.length ≤ 9223372036854775807) :
    OpOK Try.prog E nt ops ⟨some tk, .call { callee := .builtin .append, args := #[s, x], argTypes := #[t, tx] }, ty, pos, af, gd⟩ T H [] ⟨.sl (some tk) (es + 1) (zs.map f), [(tk, .tail e (es + 1) zs.length)]⟩ := by
  have := ok_append_nil tabT (E := E) (ops := ops) (H := H) (ty := ty) (pos := pos) (af := af) (gd := gd) hd hs hx hg hy hsrc (by simpa using hlen) (by simpa using hlen2)
  rw [List.length_map] at this
  exact this
/-- a new row -/
theorem o_bsl {t e : TypeId} {es bytes len : Nat} {ea : Bool} {l : List (Nat × Operand)} {vs : List (Nat × AV)} {z : AV} {out ys : List AV} {g : Nat} (hz : ZeroOk Try.prog e z) (hd : dOk nt (some g) = true) (hs : tabT.ti t = some (.sl e (es + 1) bytes ea)) (hv : partsA T l = some vs) (ho : fillA vs (List.replicate (len + 1) z) = some out) (hg : H g = none)
    (hw : ∀ H', WkL H' out ys) (hsz : out.all (fun x => Nat.beq (sizeA x) (es + 1)) = true) (hlen : out.length = len + 1) (hsmall : Nat.ble ((len + 1) * (es + 1)) 16777216 = true) :
    OpOK Try.prog E nt ops ⟨some g, .buildSlice t (len + 1) l.toArray, ty, pos, af, gd⟩ T H [] ⟨.sl (some g) (es + 1) ys, [(g, .tail e (es + 1) (len + 1))]⟩ := ok_bslice tabT hd hs hz hv ho hg hw hsz hlen hsmall
def seqA (T : Nat → Option AV) (n : Nat) : Nat → List (Nat × Operand) → Option (List AV)
  | _, [] => some []
  | i, (j, x) :: l => bif Nat.beq i j then (match evalO T x, seqA T n (i + 1) l with
    | some v, some vs => bif notTup v && Nat.beq (sizeA v) n then some (v :: vs) else none
    | _, _ => none) else none
theorem seqA_fill {T : Nat → Option AV} {n : Nat} {z : AV} (hz : sizeA z = n) : ∀ (l : List (Nat × Operand)) (i : Nat) (out pre : List AV), seqA T n i l = some out → pre.length = i → ∃ vs, partsA T l = some vs ∧ fillA vs (pre ++ List.replicate out.length z) = some (pre ++ out)
  | [], i, out, pre, h, hp => by
    simp only [seqA] at h; injection h with h; subst h
    exact ⟨[], rfl, by simp [fillA]⟩
  | (j, x) :: l, i, out, pre, h, hp => by
    simp only [seqA] at h
    cases hb : Nat.beq i j with
    | false => rw [hb] at h; cases h
    | true =>
      have := Nat.eq_of_beq_eq_true hb
      subst this
      rw [hb] at h
      simp only [cond_true] at h
      cases hx : evalO T x with
      | none => rw [hx] at h; cases h
      | some v =>
        cases hl : seqA T n (i + 1) l with
        | none => rw [hx, hl] at h; cases h
        | some us =>
          rw [hx, hl] at h
          cases hc : (notTup v && Nat.beq (sizeA v) n) with
          | false => simp only [hc, cond_false] at h; cases h
          | true =>
            simp only [hc, cond_true, Option.some.injEq] at h
            subst h
            rw [Bool.and_eq_true] at hc
            obtain ⟨vs, k1, k2⟩ := seqA_fill hz l (i + 1) us (pre ++ [v]) hl (by simp [hp])
            refine ⟨(i, v) :: vs, by simp only [partsA, hx, k1, hc.1, cond_true], ?_⟩
            have e1 : (pre ++ List.replicate (v :: us).length z)[i]? = some z := by
              rw [List.getElem?_append_right (by omega)]
              simp [hp]
            have e2 : (pre ++ List.replicate (v :: us).length z).set i v = (pre ++ [v]) ++ List.replicate us.length z := by
              rw [List.set_append_right _ _ (by omega), hp, Nat.sub_self, List.length_cons, List.replicate_succ, List.set_cons_zero]
              simp
            have e3 : Nat.beq (sizeA v) (sizeA z) = true := by rw [hz]; exact hc.2
            simp only [fillA, e1, e3, cond_true, e2, k2]
            simp
theorem seqA_size {T : Nat → Option AV} {n : Nat} : ∀ (l : List (Nat × Operand)) (i : Nat) (out : List AV), seqA T n i l = some out → out.all (fun x => Nat.beq (sizeA x) n) = true
  | [], i, out, h => by simp only [seqA] at h; injection h with h; subst h; rfl
  | (j, x) :: l, i, out, h => by
    simp only [seqA] at h
    cases hb : Nat.beq i j with
    | false => rw [hb] at h; cases h
    | true =>
      rw [hb] at h
      simp only [cond_true] at h
      cases hx : evalO T x with
      | none => rw [hx] at h; cases h
      | some v =>
        cases hl : seqA T n (i + 1) l with
        | none => rw [hx, hl] at h; cases h
        | some us =>
          rw [hx, hl] at h
          cases hc : (notTup v && Nat.beq (sizeA v) n) with
          | false => simp only [hc, cond_false] at h; cases h
          | true =>
            simp only [hc, cond_true, Option.some.injEq] at h
            subst h
            rw [Bool.and_eq_true] at hc
            simp only [List.all_cons, hc.2, seqA_size l (i + 1) us hl, Bool.and_self]
mutual
/-- a value that may still be added to, or that bears such ones, as one that is not -/
def weakV : AV → Option AV
  | .sl _ n zs => some (.sl none n zs)
  | .agg n fs => match weakA fs with
    | some us => some (.agg n us)
    | none => none
  | _ => none
def weakA : List AV → Option (List AV)
  | [] => some []
  | x :: l => match dataA x with
    | true => match weakA l with
      | some us => some (x :: us)
      | none => none
    | false => match weakV x with
      | some u => match weakA l with
        | some us => some (u :: us)
        | none => none
      | none => none
end
mutual
theorem weakV_wk {H : Hp} : ∀ (x u : AV), weakV x = some u → Wk H x u
  | .sl _ n zs, u, h => by
    simp only [weakV, Option.some.injEq] at h
    subst h
    exact Wk.tok
  | .agg n fs, u, h => by
    unfold weakV at h
    split at h
    · rename_i us e
      injection h with h; subst h
      exact Wk.agg (weakA_wkl _ _ e)
    · cases h
  | .v _, _, h | .arr _ _ _, _, h | .ptr _ _ _, _, h | .ref _, _, h | .seg _ _ _ _ _ _, _, h | .tup _, _, h | .fn _ _ _, _, h | .ifc _ _, _, h | .own _ _ _ _, _, h => by simp [weakV] at h
theorem weakA_wkl {H : Hp} : ∀ (l us : List AV), weakA l = some us → WkL H l us
  | [], us, h => by simp only [weakA] at h; injection h with h; subst h; exact .nil
  | x :: l, us, h => by
    unfold weakA at h
    split at h
    · rename_i hx
      split at h
      · rename_i us' h'
        injection h with h; subst h
        exact .cons (Wk.data hx) (weakA_wkl _ _ h')
      · cases h
    · split at h
      · rename_i u hu
        split at h
        · rename_i us' h'
          injection h with h; subst h
          exact .cons (weakV_wk _ _ hu) (weakA_wkl _ _ h')
        · cases h
      · cases h
end
/-- a new row, by its elements one by one -/
theorem o_bsll {t e : TypeId} {es bytes len : Nat} {ea : Bool} {l : List (Nat × Operand)} {z : AV} {out ys : List AV} {g : Nat} (hz : ZeroOk Try.prog e z) (hzs : sizeA z = es + 1) (hd : dOk nt (some g) = true) (hs : tabT.ti t = some (.sl e (es + 1) bytes ea)) (hv : seqA T (es + 1) 0 l = some out) (hg : H g = none)
    (hlen : out.length = len + 1) (hsmall : Nat.ble ((len + 1) * (es + 1)) 16777216 = true) (hw : weakA out = some ys) :
    OpOK Try.prog E nt ops ⟨some g, .buildSlice t (len + 1) l.toArray, ty, pos, af, gd⟩ T H [] ⟨.sl (some g) (es + 1) ys, [(g, .tail e (es + 1) (len + 1))]⟩ := by
  obtain ⟨vs, k1, k2⟩ := seqA_fill hzs l 0 out [] hv rfl
  simp only [List.nil_append, hlen] at k2
  exact o_bsl hz hd hs k1 k2 hg (fun _ => weakA_wkl _ _ hw) (seqA_size l 0 out hv) hlen hsmall
/-- cuts of images -/
theorem o_cut {α : Type} {f : α → AV} {t e : TypeId} {es bytes : Nat} {ea : Bool} {x : Operand} {lo hi : Option Operand} {tok : Option Nat} {xs : List α} {l h : Nat} (hd : dOk nt d = true) (hs : tabT.ti t = some (.sl e es bytes ea)) (hx : evalO T x = some (.sl tok es (xs.map f))) (hlo : BndA T lo 0 l) (hhi : BndA T hi xs.length h) (h1 : l ≤ h) (h2 : h ≤ xs.length) :
    OpOK Try.prog E nt ops ⟨d, .slice t x lo hi none, ty, pos, af, gd⟩ T H [] ⟨.sl none es (((xs.take h).drop l).map f), []⟩ := by
  have := ok_cut tabT (E := E) (ops := ops) (H := H) (ty := ty) (pos := pos) (af := af) (gd := gd) (mx := none) (m := 0) hd hs hx hlo (by simpa using hhi) (.inl ⟨rfl, rfl⟩) h1 (by simpa using h2)
  rwa [← List.map_take, ← List.map_drop] at this
theorem o_cutl {α : Type} {f : α → AV} {t e : TypeId} {es bytes : Nat} {ea : Bool} {x lo : Operand} {tok : Option Nat} {xs : List α} {k : IntKind} {l : Nat} (hd : dOk nt d = true) (hs : tabT.ti t = some (.sl e es bytes ea)) (hx : evalO T x = some (.sl tok es (xs.map f))) (hlo : evalO T lo = some (.v (.int k (l : Nat)))) (h1 : l ≤ xs.length) :
    OpOK Try.prog E nt ops ⟨d, .slice t x (some lo) none none, ty, pos, af, gd⟩ T H [] ⟨.sl none es ((xs.drop l).map f), []⟩ := by
  have := o_cut (E := E) (ops := ops) (H := H) (ty := ty) (pos := pos) (af := af) (gd := gd) (lo := some lo) (hi := none) (h := xs.length) hd hs hx (bnd_nat hlo) bnd_none h1 (Nat.le_refl _)
  rwa [List.take_length] at this
theorem o_cuth {α : Type} {f : α → AV} {t e : TypeId} {es bytes : Nat} {ea : Bool} {x hi : Operand} {tok : Option Nat} {xs : List α} {k : IntKind} {h : Nat} (hd : dOk nt d = true) (hs : tabT.ti t = some (.sl e es bytes ea)) (hx : evalO T x = some (.sl tok es (xs.map f))) (hhi : evalO T hi = some (.v (.int k (h : Nat)))) (h1 : h ≤ xs.length) :
    OpOK Try.prog E nt ops ⟨d, .slice t x none (some hi) none, ty, pos, af, gd⟩ T H [] ⟨.sl none es ((xs.take h).map f), []⟩ := by
  have := o_cut (E := E) (ops := ops) (H := H) (ty := ty) (pos := pos) (af := af) (gd := gd) (lo := none) (hi := some hi) (l := 0) hd hs hx bnd_none (bnd_nat hhi) (Nat.zero_le _) h1
  rwa [List.drop_zero] at this
theorem o_cutlh {α : Type} {f : α → AV} {t e : TypeId} {es bytes : Nat} {ea : Bool} {x lo hi : Operand} {tok : Option Nat} {xs : List α} {k k' : IntKind} {l h : Nat} (hd : dOk nt d = true) (hs : tabT.ti t = some (.sl e es bytes ea)) (hx : evalO T x = some (.sl tok es (xs.map f))) (hlo : evalO T lo = some (.v (.int k (l : Nat)))) (hhi : evalO T hi = some (.v (.int k' (h : Nat)))) (h1 : l ≤ h) (h2 : h ≤ xs.length) :
    OpOK Try.prog E nt ops ⟨d, .slice t x (some lo) (some hi) none, ty, pos, af, gd⟩ T H [] ⟨.sl none es (((xs.take h).drop l).map f), []⟩ := o_cut hd hs hx (bnd_nat hlo) (bnd_nat hhi) h1 h2
end
/-- a row of none -/
theorem none_arr {α : Type} (f : Nat → α) : Array.map f (Array.range 0) = #[] := Array.eq_empty_of_size_eq_zero (by simp)
theorem run_buildSlice0 (w : World) (t e : TypeId) (ie : TypeInfo) (hu : Try.prog.underlying t = some (.slice e)) (hie : Try.prog.info? e = some ie) : (Instr.buildSlice t 0 #[]).run Try.prog w = .ok (.slice (some ⟨w.heap.size, 0, none⟩) 0 0) (w.alloc (.cells #[] e)) := by
  simp [Instr.buildSlice, run_underlying hu, sizeOf, typeInfo, hie, newRow, Instr.fill]
  rw [none_arr]
section
variable {E : Env} {nt : Nat} {ops : Array Oper} {T : Nat → Option AV} {H : Hp} {d : Option Nat} {ty : TypeId} {pos : String} {af : Array Edge} {gd : Option (Nat × Bool)}
theorem o_bsl0 {t e : TypeId} {es bytes : Nat} {ea : Bool} {g : Nat} (hd : dOk nt (some g) = true) (hs : tabT.ti t = some (.sl e (es + 1) bytes ea)) (hg : H g = none) :
    OpOK Try.prog E nt ops ⟨some g, .buildSlice t 0 #[], ty, pos, af, gd⟩ T H [] ⟨.sl (some g) (es + 1) [], [(g, .tail e (es + 1) 0)]⟩ :=
  ok_eff hd fun B T' H' a w r ht hh hw' => by
    have hg' : H' g = none := (hw' (g, .tail e (es + 1) 0) (by simp)).trans hg
    obtain ⟨_, hu, hte, i, zv, z1, z2, z3, z4, z5⟩ := tabT.ok t _ hs
    obtain ⟨k1, k2⟩ := r.newRow (e := e) (k := 0) (cap := 0) (ys := []) (cs := []) hg' (Nat.succ_pos es) (by simp [Rdu]) rfl (by simp) (Nat.zero_le _) (by unfold maxLen; omega)
    have hrun := run_buildSlice0 w t e i hu z1
    have hfin : (execOp a.eval ⟨some g, .buildSlice t 0 #[], ty, pos, af, gd⟩).run Try.prog w = .ok (.value (.slice (some ⟨w.heap.size, 0, none⟩) 0 0)) (w.alloc (.cells #[] e)) := by simp [execOp, hrun]
    exact ⟨_, _, _, hfin, k1, by rw [Rdv_not (by simp)]; exact ⟨_, k2, rfl⟩⟩
/-- appended to a row of none -/
theorem o_appn {α : Type} {f : α → AV} {s x : Operand} {t tx e : TypeId} {es bytes : Nat} {ea : Bool} {tk : Nat} {zs : List α} {src : AV} (hd : dOk nt d = true) (hs : tabT.ti t = some (.sl e es bytes ea)) (hx : evalO T s = some (.sl (some tk) es [])) (hg : H tk = some (.tail e es 0))
    (hy : evalO T x = some src) (hsrc : SrcOf Try.prog tx es src (zs.map f)) (hlen : zs.length * bytes ≤ 140737488355328) (hlen2 : zs.length ≤ 9223372036854775807) :
    OpOK Try.prog E nt ops ⟨d, .call { callee := .builtin .append, args := #[s, x], argTypes := #[t, tx] }, ty, pos, af, gd⟩ T H [tk] ⟨.sl (some tk) es (zs.map f), [(tk, .tail e es zs.length)]⟩ := by
  have := o_app (f := f) (xs := []) (zs := zs) (E := E) (ops := ops) (H := H) (ty := ty) (pos := pos) (af := af) (gd := gd) hd hs hx hg hy hsrc (by simpa using hlen) (by simpa using hlen2)
  rwa [List.nil_append] at this
end
theorem Go2.re {E : Env} {nt : Nat} {T : List (Nat × AV)} {H : List (Nat × Bx)} (s : Nat) {x y : AV} (hs : look s T = some x) (h : ∀ U w B H v, Rdv U w B H x v → Rdv U w B H y v) : Go2 E nt ⟨T, H⟩ ⟨(s, y) :: T, H⟩ := fun B a w r => by
  refine ⟨B, r.nt, r.df, fun s' z hx => ?_, r.box, r.non, r.inj, r.left, r.keep⟩
  have eT : St.t ⟨(s, y) :: T, H⟩ = upd (St.t ⟨T, H⟩) s y := look_cons _ _ _
  rw [eT] at hx
  by_cases h' : s' = s
  · subst h'
    rw [upd_same] at hx
    injection hx with hx
    subst hx
    obtain ⟨v, h1, h2⟩ := r.tmp s' _ hs
    exact ⟨v, h1, h _ _ _ _ _ h2⟩
  · rw [upd_ne _ _ h'] at hx
    exact r.tmp s' z hx
/-- a slice that will not be appended to any more -/
theorem Go2.weak {E : Env} {nt : Nat} {T : List (Nat × AV)} {H : List (Nat × Bx)} (s : Nat) {tok : Option Nat} {n : Nat} {xs : List AV} (hs : look s T = some (.sl tok n xs)) : Go2 E nt ⟨T, H⟩ ⟨(s, .sl none n xs) :: T, H⟩ := Go2.re s hs fun U w B H v h => by
  rw [Rdv_not (by simp)] at h ⊢
  obtain ⟨c, h1, h2⟩ := h
  simp only [Rd] at h1
  obtain ⟨A, cap, rfl, k2, k3, k4, _⟩ := h1
  refine ⟨[_], ?_, h2⟩
  simp only [Rd]
  exact ⟨A, cap, rfl, k2, k3, k4, fun t ht => by cases ht⟩
/-- nil, as a slice of none -/
theorem Go2.nil {E : Env} {nt : Nat} {T : List (Nat × AV)} {H : List (Nat × Bx)} (s n : Nat) (hs : look s T = some (.v (.slice none 0 0))) : Go2 E nt ⟨T, H⟩ ⟨(s, .sl none n []) :: T, H⟩ := Go2.re s hs fun U w B H v h => by
  rw [Rdv_v] at h
  rw [Rdv_not (by simp), h.2]
  refine ⟨[_], ?_, rfl⟩
  simp only [Rd]
  exact ⟨none, 0, rfl, Nat.le_refl _, by unfold maxLen; omega, fun h => absurd h (by simp), fun t ht => by cases ht⟩
/-- a contract's reading of what is handed in -/
theorem sl_in {α : Type} {av : α → AV} {arr : α → Array Value} {n : Nat} (enc : EncOk arr n) (hrdu : ∀ (U : Uns) (w : World) (xs : List α) {c : List Value}, Rdu U w n (xs.map av) B0 H0 c ↔ c = flat arr xs) {w : World} {xs : List α} {v : Value} (h : Sl arr n w v xs) : Rdv (fun _ _ => False) w B0 H0 (.sl none n (xs.map av)) v := by
  obtain ⟨A, cap, rfl, h2, h3, h4⟩ := h
  rw [Rdv_not (by simp)]
  refine ⟨[_], ?_, rfl⟩
  simp only [Rd, List.length_map]
  refine ⟨A, cap, rfl, h2, h3, fun h0 => ?_, fun t ht => by cases ht⟩
  obtain ⟨b, off, k1, k2, k3⟩ := h4.row enc h0
  refine ⟨b, off, flat arr xs, k1, k3, fun _ _ _ h => h, (hrdu _ _ xs).2 rfl⟩
theorem ints_in {w : World} {xs : List Int} {v : Value} (h : Sl ie 1 w v xs) : Rdv (fun _ _ => False) w B0 H0 (.sl none 1 (xs.map intA)) v :=
  sl_in ie_ok (fun U w xs c => by rw [flat_cells (arr := ie) (cell := fun n => Value.int .i64 n) (fun _ => rfl)]; exact rdu_cells (cell := fun n => .int .i64 n) (fun _ => rfl) (fun _ => rfl) xs) h
theorem bytes_in {w : World} {xs : List (BitVec 8)} {v : Value} (h : Sl be 1 w v xs) : Rdv (fun _ _ => False) w B0 H0 (.sl none 1 (xs.map byteA)) v :=
  sl_in be_ok (fun U w xs c => by rw [flat_cells (arr := be) (cell := fun x => Value.int .u8 (B8 x)) (fun _ => rfl)]; exact rdu_cells (cell := fun x => .int .u8 (B8 x)) (fun _ => rfl) (fun _ => rfl) xs) h
theorem DT.sl_in {α : Type} (D : DT α) {w : World} {xs : List α} {v : Value} (h : Sl D.arr D.n w v xs) : Rdv (fun _ _ => False) w B0 H0 (.sl none D.n (xs.map D.av)) v := Proofs.Ytphojngdgmnpaaa.sl_in D.enc (fun U w xs c => D.rdu xs) h
theorem int_in {w : World} {n : Int} : Rdv (fun _ _ => False) w B0 H0 (intA n) (.int .i64 n) := Rdv_v.2 ⟨rfl, rfl⟩
theorem rdp_cons {U : Uns} {w : World} {x : AV} {xs : List AV} {v : Value} {us : List Value} (hn : notTup x = true) (h : Rdv U w B0 H0 x v) (h2 : Rdp U w xs B0 H0 us) : Rdp U w (x :: xs) B0 H0 (v :: us) := by
  rw [Rdv_not (notTup_ne hn)] at h
  obtain ⟨c, h1, h3⟩ := h
  simp only [Rdp]
  exact ⟨c, us, by rw [h3], h1, h2⟩
theorem rdp_nil' {U : Uns} {w : World} : Rdp U w [] B0 H0 [] := by simp [Rdp]
/-- a law's walk out of its reading -/
theorem law_of {f : FuncId} {args : List AV} {vs : List Value} {w : World} (h : AFn Try.prog f args (boolA true)) (hr : Rdp (fun _ _ => False) w args B0 H0 vs) : Calls Try.prog f vs.toArray w (Is w (.bool true)) :=
  (h _ w vs hr).mono fun e w' ⟨v, h1, h2, h3⟩ => by
    have := (Rdv_v.1 h2).2
    subst this
    exact ⟨h1, h3⟩
/-- a number that is none below 0, by reckoning -/
def natOf : Int → Option Nat
  | .ofNat n => some n
  | .negSucc _ => none
theorem natOf_eq : ∀ {x : Int} {n : Nat}, natOf x = some n → x = (n : Int)
  | .ofNat m, n, h => by simp only [natOf] at h; injection h with h; subst h; rfl
  | .negSucc _, n, h => by simp [natOf] at h
def forceA : List AV → Option (List AV)
  | [] => some []
  | x :: l => match forceA l with
    | some us => some (x :: us)
    | none => none
theorem forceA_eq : ∀ {l us : List AV}, forceA l = some us → l = us
  | [], us, h => by simp only [forceA] at h; injection h
  | x :: l, us, h => by
    simp only [forceA] at h
    split at h
    · rename_i us' h'
      injection h with h; subst h
      rw [forceA_eq h']
    · cases h
section
variable {E : Env} {nt : Nat} {ops : Array Oper} {T : Nat → Option AV} {H : Hp} {d : Option Nat} {ty : TypeId} {pos : String} {af : Array Edge} {gd : Option (Nat × Bool)}
theorem o_idx2 {α : Type} {f : α → AV} {x ix : Operand} {t e : TypeId} {es bytes : Nat} {ea : Bool} {tok : Option Nat} {xs : List α} {k : IntKind} {n : Int} {i : Nat} (hd : dOk nt d = true) (hs : tabT.ti t = some (.sl e es bytes ea)) (hx : evalO T x = some (.sl tok es (xs.map f))) (hi : evalO T ix = some (.v (.int k n))) (hn : natOf n = some i)
    (hl : i < xs.length) : OpOK Try.prog E nt ops ⟨d, .indexAddr t x ix, ty, pos, af, gd⟩ T H [] ⟨.ref (f xs[i]), []⟩ := o_idxi i hd hs hx hi (natOf_eq hn) hl
theorem o_cutl2 {α : Type} {f : α → AV} {t e : TypeId} {es bytes : Nat} {ea : Bool} {x lo : Operand} {tok : Option Nat} {xs : List α} {k : IntKind} {n : Int} {l : Nat} (hd : dOk nt d = true) (hs : tabT.ti t = some (.sl e es bytes ea)) (hx : evalO T x = some (.sl tok es (xs.map f))) (hlo : evalO T lo = some (.v (.int k n))) (hn : natOf n = some l) (h1 : l ≤ xs.length) :
    OpOK Try.prog E nt ops ⟨d, .slice t x (some lo) none none, ty, pos, af, gd⟩ T H [] ⟨.sl none es ((xs.drop l).map f), []⟩ := by
  have := natOf_eq hn; subst this
  exact o_cutl hd hs hx hlo h1
theorem o_cuth2 {α : Type} {f : α → AV} {t e : TypeId} {es bytes : Nat} {ea : Bool} {x hi : Operand} {tok : Option Nat} {xs : List α} {k : IntKind} {n : Int} {h : Nat} (hd : dOk nt d = true) (hs : tabT.ti t = some (.sl e es bytes ea)) (hx : evalO T x = some (.sl tok es (xs.map f))) (hhi : evalO T hi = some (.v (.int k n))) (hn : natOf n = some h) (h1 : h ≤ xs.length) :
    OpOK Try.prog E nt ops ⟨d, .slice t x none (some hi) none, ty, pos, af, gd⟩ T H [] ⟨.sl none es ((xs.take h).map f), []⟩ := by
  have := natOf_eq hn; subst this
  exact o_cuth hd hs hx hhi h1
theorem o_idx3 {α : Type} {f : α → AV} {x ix : Operand} {t e : TypeId} {es bytes : Nat} {ea : Bool} {tok : Option Nat} {xs : List α} {k : IntKind} {i : Nat} (hd : dOk nt d = true) (hs : tabT.ti t = some (.sl e es bytes ea)) (hx : evalO T x = some (.sl tok es (xs.map f))) (hi : evalO T ix = some (.v (.int k (@OfNat.ofNat Int i (@instOfNat i)))))
    (hl : @OfNat.ofNat Nat i (instOfNatNat i) < xs.length) : OpOK Try.prog E nt ops ⟨d, .indexAddr t x ix, ty, pos, af, gd⟩ T H [] ⟨.ref (f xs[@OfNat.ofNat Nat i (instOfNatNat i)]), []⟩ := o_idxi i hd hs hx hi rfl hl
theorem o_cutl3 {α : Type} {f : α → AV} {t e : TypeId} {es bytes : Nat} {ea : Bool} {x lo : Operand} {tok : Option Nat} {xs : List α} {k : IntKind} {l : Nat} (hd : dOk nt d = true) (hs : tabT.ti t = some (.sl e es bytes ea)) (hx : evalO T x = some (.sl tok es (xs.map f))) (hlo : evalO T lo = some (.v (.int k (@OfNat.ofNat Int l (@instOfNat l))))) (h1 : @OfNat.ofNat Nat l (instOfNatNat l) ≤ xs.length) :
    OpOK Try.prog E nt ops ⟨d, .slice t x (some lo) none none, ty, pos, af, gd⟩ T H [] ⟨.sl none es ((xs.drop (@OfNat.ofNat Nat l (instOfNatNat l))).map f), []⟩ := o_cutl hd hs hx hlo h1
theorem o_cuth3 {α : Type} {f : α → AV} {t e : TypeId} {es bytes : Nat} {ea : Bool} {x hi : Operand} {tok : Option Nat} {xs : List α} {k : IntKind} {h : Nat} (hd : dOk nt d = true) (hs : tabT.ti t = some (.sl e es bytes ea)) (hx : evalO T x = some (.sl tok es (xs.map f))) (hhi : evalO T hi = some (.v (.int k (@OfNat.ofNat Int h (@instOfNat h))))) (h1 : @OfNat.ofNat Nat h (instOfNatNat h) ≤ xs.length) :
    OpOK Try.prog E nt ops ⟨d, .slice t x none (some hi) none, ty, pos, af, gd⟩ T H [] ⟨.sl none es ((xs.take (@OfNat.ofNat Nat h (instOfNatNat h))).map f), []⟩ := o_cuth hd hs hx hhi h1
theorem o_cutlh2 {α : Type} {f : α → AV} {t e : TypeId} {es bytes : Nat} {ea : Bool} {x lo hi : Operand} {tok : Option Nat} {xs : List α} {k k' : IntKind} {m n : Int} {l h : Nat} (hd : dOk nt d = true) (hs : tabT.ti t = some (.sl e es bytes ea)) (hx : evalO T x = some (.sl tok es (xs.map f))) (hlo : evalO T lo = some (.v (.int k m))) (hm : natOf m = some l) (hhi : evalO T hi = some (.v (.int k' n))) (hn : natOf n = some h) (h1 : l ≤ h) (h2 : h ≤ xs.length) :
    OpOK Try.prog E nt ops ⟨d, .slice t x (some lo) (some hi) none, ty, pos, af, gd⟩ T H [] ⟨.sl none es (((xs.take h).drop l).map f), []⟩ := by
  have := natOf_eq hn; subst this
  have := natOf_eq hm; subst this
  exact o_cutlh hd hs hx hlo hhi h1 h2
theorem o_bld {t n : Nat} {fs : List (Nat × Nat × Bool)} {l : List (Nat × Operand)} {vs : List (Nat × AV)} {zs out out' : List AV} {z : AV} (hz : ZeroOk Try.prog t z) (hze : z = .agg n zs) (hd : dOk nt d = true) (hs : tabT.ti t = some (.st n fs)) (hv : partsA T l = some vs) (ho : fillA vs zs = some out) (hf : forceA out = some out') (hp : placesOk 0 zs fs = true) :
    OpOK Try.prog E nt ops ⟨d, .build t l.toArray, ty, pos, af, gd⟩ T H [] ⟨.agg n out', []⟩ := by
  subst hze
  have := forceA_eq hf; subst this
  exact ok_build tabT hd hs hz hv ho hp
end
theorem Wri {P : Program} {E : Env} {nt : Nat} {ops : Array Oper} {l : List Oper} {T : List (Nat × AV)} {H : List (Nat × Bx)} {rs : List Rec} {K : St → List Rec → Prop} (s : Nat) {a : Int} (b : Int) (hs : look s T = some (.v (.int .i64 a))) (he : a = b) {o : Oper} (h : AWops P E nt ops (o :: l) ⟨(s, .v (.int .i64 b)) :: T, H⟩ rs K) : AWops P E nt ops (o :: l) ⟨T, H⟩ rs K :=
  Was s (.v (.int .i64 b)) (by rw [hs, he]) h
/-- what a result is -/
theorem res_of {P : Program} {S : St} {t : Nat} {x : AV} (hx : S.t t = some x) (hn : notTup x = true) (hd : dataA x = true) : Res1 P S (.tmp t) x := ⟨x, hx, notTup_ne hn, Wk.data hd⟩
theorem res_sl {P : Program} {S : St} {t n : Nat} {tok : Option Nat} {xs : List AV} (hx : S.t t = some (.sl tok n xs)) : Res1 P S (.tmp t) (.sl none n xs) := ⟨_, hx, notTup_ne rfl, Wk.tok⟩
theorem res_nil {P : Program} {S : St} {t n : Nat} (hx : S.t t = some (.v (.slice none 0 0))) : Res1 P S (.tmp t) (.sl none n []) := ⟨_, hx, notTup_ne rfl, Wk.nil⟩
theorem res_var {S : St} {a t g : Nat} {x : AV} (ha : S.t a = some (.ptr g 0 [])) (hg : S.h g = some (.var x)) (hs : tabT.sa t = some (isAggA x, sizeA x)) (hd : dataA x = true) : Res1 Try.prog S (.cell a t) x := ⟨g, x, ha, hg, tabT.tyOf hs, Wk.data hd⟩
theorem fin {P : Program} {S : St} {rv : List ResultVar} {ys : List AV} (h : ResL P S rv ys) : (Exit.ret = Exit.normal ∨ Exit.ret = Exit.ret) ∧ ResL P S rv ys := ⟨.inr rfl, h⟩
theorem finn {P : Program} {S : St} {rv : List ResultVar} {ys : List AV} (h : ResL P S rv ys) : (Exit.normal = Exit.normal ∨ Exit.normal = Exit.ret) ∧ ResL P S rv ys := ⟨.inl rfl, h⟩
end Go.Proofs.Ytphojngdgmnpaaa

namespace Go.Proofs.Ytphojngdgmnpaaa
open Go Go.RowKit
set_option linter.unusedVariables false
set_option linter.unusedSimpArgs false
set_option maxRecDepth 100000

section
variable {E : Env} {nt : Nat} {B B' : Blk} {T : Nat → Option AV} {H H' : Hp} {a : Act} {w w' : World}
theorem OwnOk.go {U : Uns} (evo : Evo U w w') {g n len : Nat} {k : OwnK} {v : Value} (hH : H' g = H g) (hB : B' g = B g) (h : OwnOk w B H g n len k v) : OwnOk w' B' H' g n len k v := by
  obtain ⟨e, xs, h1, h2, h3, h4⟩ := h
  refine ⟨e, xs, hH.trans h1, h2, h3, fun hl => ⟨fun hn => (h4 hl).1 (hB ▸ hn), fun b hb => ?_⟩⟩
  obtain ⟨cur, m1, m2⟩ := (h4 hl).2 b (hB ▸ hb)
  obtain ⟨cs', c1, c2, _⟩ := evo.cell b cur e (0, 0) m1
  refine ⟨cs', c1, ?_⟩
  cases k with
  | row => obtain ⟨cap, q1, q2, q3, q4⟩ := m2; exact ⟨cap, q1, q2, q3, c2.trans q4⟩
  | _ => exact m2
theorem row_pre {b m : Nat} {cur : Array Value} {c : List Value} {e : TypeId} (hb : w.heap[b]? = some (.cells cur e (0, 0))) (hpre : ∀ o, o < m → cur[o]? = c[o]?) (hc : c.length = m) (hm : m ≤ cur.size) : row? w b 0 m = some c.toArray := by
  rw [row_block hb]
  unfold rowOf
  rw [if_pos (by omega)]
  congr 1
  apply Array.ext_getElem?
  intro q
  rw [Array.getElem?_extract]
  by_cases hq : q < m
  · rw [if_pos (by omega), Nat.zero_add, hpre q hq]; simp
  · rw [if_neg (by omega), Array.getElem?_eq_none (by simpa using (by omega : c.length ≤ q))]
/-- an own row's block is turned -/
theorem Rel.ownPut (r : Rel E nt B T H a w) {g n b cap : Nat} {e : TypeId} {xs ys : List AV} {cur cur' : Array Value} {c' : List Value} (hg : H g = some (.own e n xs)) (hb : B g = some b) (hw : w.heap[b]? = some (.cells cur e (0, 0))) (hs : cur.size = cap * n) (hle : xs.length ≤ ys.length) (hc : ys.length ≤ cap) (hm : cap ≤ maxLen)
    (ht : Turned w w' b) (hw' : w'.heap[b]? = some (.cells cur' e (0, 0))) (hl : cur'.size = cur.size) (hpre : ∀ o, o < ys.length * n → cur'[o]? = c'[o]?) (hy : Rdu (unst E B H) w n ys B0 H0 c') : Rel E nt B T (upd H g (.own e n ys)) a w' ∧ Evo (unst E B H) w w' := by
  have hlive : live (H g) = true := by rw [hg]; rfl
  obtain ⟨hn, hT, hbox⟩ := r.box g _ hg
  have hent : Mine E b 0 := by
    rcases hbox with ⟨k1, _⟩ | ⟨b', _, _, _, k1, _, _, _, _, _, _, k4⟩
    · rw [hb] at k1; cases k1
    · rw [hb] at k1; injection k1 with k1; subst k1; exact k4
  have hun : ∀ b' o, unst E B (upd H g (.own e n ys)) b' o ↔ unst E B H b' o := by
    intro b' o
    unfold unst
    refine or_congr Iff.rfl (exists_congr fun j => and_congr_right fun _ => ?_)
    by_cases h : j = g
    · subst h; rw [upd_same, hg]
    · rw [upd_ne _ _ h]
  have hbu : ∀ o, unst E B H b o := fun o => .inr ⟨g, hb, by rw [hg]; trivial⟩
  have evo : Evo (unst E B H) w w' := ht.evo hw hw' hl (fun o h => absurd (hbu o) h)
  have hT' : Tie E g ys.length (B g) := fun k0 b0 h => by
    obtain ⟨h1, h2⟩ := hT k0 b0 h
    exact ⟨by omega, fun e => h2 (by omega)⟩
  have pic : Pic w w' B B H (upd H g (.own e n ys)) := by
    refine ⟨fun _ _ _ h => h, fun j h => ?_, fun t n' len A cap' h => ?_, fun g' n' len k v h => ?_⟩
    · have hj : j ≠ g := fun e => by rw [e, hg] at h; cases h
      rw [upd_ne _ _ hj]; exact h
    · obtain ⟨e', q, h1, h2, h3⟩ := h
      have hne : t ≠ g := fun e' => by rw [e', hg] at h1; cases h1
      refine ⟨e', q, by rw [upd_ne _ _ hne]; exact h1, h2, fun hk => ⟨(h3 hk).1, fun b' hb' => ?_⟩⟩
      obtain ⟨k1, cu, k2, k3⟩ := (h3 hk).2 b' hb'
      have hbb : b' ≠ b := fun e' => hne (r.inj t g b (by rw [h1]; rfl) hlive (e' ▸ hb') hb)
      exact ⟨k1, cu, (ht.other b' hbb).trans k2, k3⟩
    · by_cases hj : g' = g
      · subst hj
        obtain ⟨e', xs', h1, h2, h3, h4⟩ := h
        rw [hg] at h1; injection h1 with h1; injection h1 with q1 q2 q3; subst q1 q2 q3
        refine ⟨e, ys, upd_same _ _ _, by omega, h3, fun hk => ⟨fun hn' => (by rw [hb] at hn'; cases hn'), fun b' hb' => ?_⟩⟩
        have hk' : len = xs.length := by omega
        rw [hb] at hb'; injection hb' with hb'; subst hb'
        obtain ⟨cu, m1, m2⟩ := (h4 hk').2 b hb
        rw [hw] at m1; injection m1 with m1; injection m1 with m1 _ _; subst m1
        refine ⟨cur', hw', ?_⟩
        cases k with
        | row => obtain ⟨cp, p1, p2, p3, p4⟩ := m2; exact ⟨cp, p1, p2, p3, hl.trans p4⟩
        | _ => exact m2
      · exact h.go evo (upd_ne _ _ hj) rfl
  refine ⟨r.move evo (fun b' o _ h => (hun b' o).1 h) pic (ht.left r.left hw hw' hl (fun o h => absurd h (Nat.not_lt_zero o)) hent) (fun j bj h => ?_) (fun j h => ?_) (fun j j' b' h1 h2 h3 h4 => ?_), evo⟩
  · by_cases hj : j = g
    · subst hj
      rw [upd_same] at h; injection h with h; subst h
      exact .inl ⟨hn, hT', .inr ⟨b, cur', cap, c', hb, hw', hl.trans hs, hc, hm, hpre, Rdu_go evo (fun b' o _ h => (hun b' o).1 h) n ys (Pic.refl0 _ _) hy, hent⟩⟩
    · rw [upd_ne _ _ hj] at h
      exact .inr ⟨h, rfl, fun b' hlv hb' => ht.other b' fun e' => hj (r.inj j g b (by rw [h]; exact hlv) hlive (e' ▸ hb') hb)⟩
  · by_cases hj : j = g
    · subst hj; rw [upd_same] at h; cases h
    · rw [upd_ne _ _ hj] at h; exact ⟨h, r.non j h⟩
  · rw [live_upd (by rw [hg]; rfl)] at h1 h2
    exact r.inj j j' b' h1 h2 h3 h4
/-- an own row goes on in a new block -/
theorem Rel.ownNew (r : Rel E nt B T H a w) {g n cap : Nat} {e : TypeId} {xs ys : List AV} {cells : Array Value} {c' : List Value} (hg : H g = some (.own e n xs)) (hlt : xs.length < ys.length) (hs : cells.size = cap * n) (hc : ys.length ≤ cap) (hm : cap ≤ maxLen) (hpre : ∀ o, o < ys.length * n → cells[o]? = c'[o]?) (hy : Rdu (unst E B H) w n ys B0 H0 c') :
    Rel E nt (upd B g w.heap.size) T (upd H g (.own e n ys)) a (w.drew.alloc (.cells cells e)) := by
  have hl : ∀ j bj b, H j = some bj → B j = some b → b < w.heap.size := fun j bj b h1 h2 => r.blk_lt h1 h2
  have hext : Ext w (w.drew.alloc (.cells cells e)) := (Ext.refl w).drew.alloc _
  obtain ⟨hn, hT, hbox⟩ := r.box g _ hg
  have pic : Pic w (w.drew.alloc (.cells cells e)) B (upd B g w.heap.size) H (upd H g (.own e n ys)) := by
    refine ⟨fun j b h1 h2 => ?_, fun j h => ?_, fun t' n' len A cap h => ?_, fun g' n' len k v h => ?_⟩
    · have hj : j ≠ g := fun e => by rw [e, hg] at h1; cases h1
      rw [upd_ne _ _ hj]; exact h2
    · have hj : j ≠ g := fun e => by rw [e, hg] at h; cases h
      rw [upd_ne _ _ hj]; exact h
    · obtain ⟨e', q, h1, h2, h3⟩ := h
      have hj : t' ≠ g := fun e => by rw [e, hg] at h1; cases h1
      refine ⟨e', q, by rw [upd_ne _ _ hj]; exact h1, h2, ?_⟩
      rw [upd_ne _ _ hj]
      refine fun hk => ⟨(h3 hk).1, fun b hb => ?_⟩
      obtain ⟨k1, cur, k2, k3⟩ := (h3 hk).2 b hb
      exact ⟨k1, cur, hext.heap k2, k3⟩
    · by_cases hj : g' = g
      · subst hj
        obtain ⟨e', xs', h1, h2, h3, h4⟩ := h
        rw [hg] at h1; injection h1 with h1; injection h1 with q1 q2 q3; subst q1 q2 q3
        exact ⟨e, ys, upd_same _ _ _, by omega, h3, fun hk => by omega⟩
      · exact h.go (U := fun _ _ => False) (Evo.ofExt hext) (upd_ne _ _ hj) (upd_ne _ _ hj)
  have hsub : ∀ b o, b < w.heap.size → unst E (upd B g w.heap.size) (upd H g (.own e n ys)) b o → unst E B H b o := fun b o hb h => unst_new hl b o hb h
  refine r.move (Evo.ofExt hext) hsub pic (r.left.ext hext) (fun j bj h => ?_) (fun j h => ?_) (fun j j' b h1 h2 h3 h4 => ?_)
  · by_cases hj : j = g
    · subst hj; rw [upd_same] at h; injection h with h; subst h
      exact .inl ⟨hn, hT.grow hlt, .inr ⟨w.heap.size, cells, cap, c', upd_same _ _ _, heap_alloc_new w.drew _, hs, hc, hm, hpre, Rdu_go (Evo.ofExt hext) hsub n ys (Pic.refl0 _ _) hy, .inl r.left.size⟩⟩
    · rw [upd_ne _ _ hj] at h
      refine .inr ⟨h, upd_ne _ _ hj, fun b _ hb => ?_⟩
      exact hext.block b (hl j bj b h hb)
  · by_cases hj : j = g
    · subst hj; rw [upd_same] at h; cases h
    · rw [upd_ne _ _ hj] at h ⊢; exact ⟨h, r.non j h⟩
  · have big : ∀ j, j ≠ g → live (upd H g (.own e n ys) j) = true → upd B g w.heap.size j = some b → b < w.heap.size := by
      intro j hj hlv hb
      rw [upd_ne _ _ hj] at hlv hb
      cases hh : H j with
      | none => rw [hh] at hlv; cases hlv
      | some bj => exact hl j bj b hh hb
    by_cases hj : j = g
    · by_cases hj' : j' = g
      · rw [hj, hj']
      · have := big j' hj' h2 h4
        subst hj
        rw [upd_same] at h3
        injection h3 with h3
        omega
    · by_cases hj' : j' = g
      · have := big j hj h1 h3
        subst hj'
        rw [upd_same] at h4
        injection h4 with h4
        omega
      · rw [upd_ne _ _ hj] at h1 h3
        rw [upd_ne _ _ hj'] at h2 h4
        exact r.inj j j' b h1 h2 h3 h4
/-- what the row is: its block, its cells -/
theorem Rel.ownAt (r : Rel E nt B T H a w) {g n : Nat} {e : TypeId} {xs : List AV} (hg : H g = some (.own e n xs)) : 0 < n ∧ ((B g = none ∧ xs = []) ∨ ∃ b cur cap c, B g = some b ∧ w.heap[b]? = some (.cells cur e (0, 0)) ∧ cur.size = cap * n ∧ xs.length ≤ cap ∧ cap ≤ maxLen ∧ (∀ o, o < xs.length * n → cur[o]? = c[o]?) ∧ Rdu (unst E B H) w n xs B0 H0 c ∧ Mine E b 0 ∧ row? w b 0 (xs.length * n) = some c.toArray) := by
  obtain ⟨hn, _, h⟩ := r.box g _ hg
  refine ⟨hn, h.imp id ?_⟩
  rintro ⟨b, cur, cap, c, k1, k2, k3, k4, k5, k6, k7, k8⟩
  exact ⟨b, cur, cap, c, k1, k2, k3, k4, k5, k6, k7, k8, row_pre k2 k6 (Rdu_len k7) (by rw [k3]; exact Nat.mul_le_mul_right _ k4)⟩
theorem own_v {U : Uns} {g n len : Nat} {k : OwnK} {v : Value} (h : Rdv U w B H (.own g n len k) v) : OwnOk w B H g n len k v := by
  rw [Rdv_not (by simp)] at h
  obtain ⟨c, h1, rfl⟩ := h
  simp only [Rd] at h1
  obtain ⟨v, h2, rfl⟩ := h1
  simpa [pack] using h2
theorem own_i {U : Uns} {g n len : Nat} {k : OwnK} {v : Value} (h : OwnOk w B H g n len k v) : Rdv U w B H (.own g n len k) v := by
  rw [Rdv_not (by simp)]
  exact ⟨[v], by simp only [Rd]; exact ⟨v, h, rfl⟩, rfl⟩
theorem OwnOk.now {g n len : Nat} {k : OwnK} {v : Value} {e : TypeId} {xs : List AV} (h : OwnOk w B H g n len k v) (hg : H g = some (.own e n xs)) (hl : len = xs.length) : (B g = none → v = .slice none 0 0) ∧ ∀ b, B g = some b → ∃ cur, w.heap[b]? = some (.cells cur e (0, 0)) ∧ match (generalizing := false) k with
    | .row => ∃ cap, v = .slice (some ⟨b, 0, none⟩) len cap ∧ len ≤ cap ∧ cap ≤ maxLen ∧ cur.size = cap * n
    | .at off _ => v = .pointer (some ⟨b, off, none⟩)
    | .part off l => ∃ cap, v = .slice (some ⟨b, off * n, none⟩) l cap ∧ off + l ≤ len ∧ l ≤ cap ∧ cap ≤ maxLen := by
  obtain ⟨e', xs', h1, h2, h3, h4⟩ := h
  rw [hg] at h1; injection h1 with h1; injection h1 with q1 q2 q3; subst q1 q3
  exact h4 hl
end
section
variable {P : Program} {E : Env} {nt : Nat} {ops : Array Oper} {T : Nat → Option AV} {H : Hp} {d : Option Nat} {ty : TypeId} {pos : String} {af : Array Edge} {gd : Option (Nat × Bool)} (tb : Tab P)
theorem own_append {B : Blk} {a : Act} {w : World} {t tx ty e : TypeId} {es bytes : Nat} {ea : Bool} {g : Nat} {xs ys : List AV} {sv yv : Value} (r : Rel E nt B T H a w) (hs : tb.ti t = some (.sl e es bytes ea)) (h : OwnOk w B H g es xs.length .row sv) (hg : H g = some (.own e es xs))
    (hsrc : SrcA P E B H w tx es yv ys) (hlen : (xs.length + ys.length) * bytes ≤ 140737488355328) (hlen2 : xs.length + ys.length ≤ 9223372036854775807) :
    ∃ v w' B', (Builtin.append_ #[t, tx] ty #[sv, yv]).run P w = .ok v w' ∧ Rel E nt B' T (upd H g (.own e es (xs ++ ys))) a w' ∧ OwnOk w' B' (upd H g (.own e es (xs ++ ys))) g es (xs.length + ys.length) .row v := by
  obtain ⟨news, hS, hN⟩ := hsrc
  obtain ⟨_, hu, _, i, z, hi, hz, his, hib, hzs⟩ := tb.ok t _ hs
  subst his hib
  have hnl := Rdu_len hN
  obtain ⟨hn1, hn2⟩ := h.now hg rfl
  obtain ⟨hpos, hbox⟩ := r.ownAt hg
  have hone := h
  obtain ⟨A, cap, hsv, hcap⟩ : ∃ A cap, sv = .slice A xs.length cap ∧ xs.length ≤ cap := by
    rcases hbox with ⟨k1, k2⟩ | ⟨b, cur, cp, c, k1, _⟩
    · exact ⟨none, 0, by rw [hn1 k1, k2]; rfl, by rw [k2]; exact Nat.le_refl _⟩
    · obtain ⟨cu, _, cap, q1, q2, _⟩ := hn2 b k1
      exact ⟨_, cap, q1, q2⟩
  by_cases hm : ys.length = 0
  · obtain rfl : ys = [] := List.eq_nil_of_length_eq_zero hm
    obtain rfl : news = [] := List.eq_nil_of_length_eq_zero (by simpa using hnl)
    have hr := run_append_nothing (P := P) w t tx ty e i hu hi A xs.length cap hcap yv hS
    refine ⟨_, w, B, by rw [hsv]; exact hr, ?_, ?_⟩
    · rw [List.append_nil, upd_eta hg]; exact r
    · rw [List.append_nil, upd_eta hg, ← hsv]; exact h
  · have hlt : xs.length < (xs ++ ys).length := by simp; omega
    have hel : (xs ++ ys).length = xs.length + ys.length := by simp
    have h63 : ((xs.length + ys.length : Nat) : Int) ≤ 9223372036854775807 := by omega
    have hcmax : ∀ c, grownCap w (xs.length + ys.length) c e ≤ maxLen := fun c => grownCap_le_maxLen w _ c e (by unfold maxLen; omega)
    have fresh : ∀ (olds : List Value), cap < xs.length + ys.length → Rdu (unst E B H) w i.size xs B0 H0 olds → (Builtin.firstCells i.size xs.length (.slice A xs.length cap)).run P w.drew = .ok olds.toArray w.drew → ∃ v w' B', (Builtin.append_ #[t, tx] ty #[sv, yv]).run P w = .ok v w' ∧ Rel E nt B' T (upd H g (.own e i.size (xs ++ ys))) a w' ∧ OwnOk w' B' (upd H g (.own e i.size (xs ++ ys))) g i.size (xs.length + ys.length) .row v := by
      intro olds hc hO hold
      have hol := Rdu_len hO
      have hr := run_append_grow_src (P := P) w t tx ty e i z hu hi hz A xs.length cap olds hold yv ys.length news hS hc h63 (growslice_fits (by omega) (by exact hlen))
      have hge := grownCap_ge w (xs.length + ys.length) cap e
      have hsz : ((olds ++ news).toArray ++ Builtin.zeroCells z.cells (grownCap w (xs.length + ys.length) cap e - (xs.length + ys.length))).size = grownCap w (xs.length + ys.length) cap e * i.size := by
        simp only [Array.size_append, List.size_toArray, List.length_append, size_zeroCells, hzs, hol, hnl, ← Nat.add_mul]
        congr 1; omega
      have hreg := r.ownNew (ys := xs ++ ys) (c' := olds ++ news) hg hlt hsz (by rw [hel]; exact hge) (hcmax cap) (fun o ho => by
        rw [hel, Nat.add_mul, ← hol, ← hnl, ← List.length_append] at ho
        rw [Array.getElem?_append_left (by simpa using ho)]; simp) (Rdu_append hO hN)
      refine ⟨_, _, _, by rw [hsv]; exact hr, hreg, ⟨e, xs ++ ys, upd_same _ _ _, Nat.le_of_eq hel.symm, rfl, fun _ => ⟨fun h => ?_, fun b hb => ?_⟩⟩⟩
      · rw [upd_same] at h; cases h
      · rw [upd_same] at hb; injection hb with hb; subst hb
        exact ⟨_, heap_alloc_new w.drew _, _, rfl, hge, hcmax cap, hsz⟩
    rcases hbox with ⟨k1, k2⟩ | ⟨b, cur, cp, c, k1, k2, k3, k4, k5, k6, k7, k8, k9⟩
    · subst k2
      have := hn1 k1
      rw [hsv] at this
      injection this with e1 e2 e3
      subst e1 e3
      exact fresh [] (by simp; omega) (by simp [Rdu]) (by simp [Builtin.firstCells])
    · obtain ⟨cu, m1, cap', m2, m3, m4, m5⟩ := hn2 b k1
      rw [k2] at m1; injection m1 with m1; injection m1 with m1 _ _; subst m1
      rw [hsv] at m2
      injection m2 with e1 e2 e3
      subst e1 e3
      have hcl := Rdu_len k7
      by_cases hroom : xs.length + ys.length ≤ cap
      · have hfit : xs.length * i.size + news.length ≤ cur.size := by rw [hnl, m5, ← Nat.add_mul]; exact Nat.mul_le_mul_right _ hroom
        have hr := run_append_put (P := P) (ty := ty) hu hi hS hroom k2 hfit
        have hput := putRow_heap_same (off := xs.length * i.size) (cs := news.toArray) k2
        have hsp : (splice cur (xs.length * i.size) news.toArray).size = cur.size := splice_size _ _ _ (by simpa using hfit)
        have hrm := r.ownPut (ys := xs ++ ys) (c' := c ++ news) hg k1 k2 m5 (by omega) (by rw [hel]; exact hroom) m4 turned_put hput hsp (fun o ho => by
          rw [hel, Nat.add_mul] at ho
          rw [splice_get (by simpa using hfit)]
          by_cases h1 : o < xs.length * i.size
          · rw [if_neg (by omega), k6 o h1, List.getElem?_append_left (by omega)]
          · rw [if_pos (by simp; omega), List.getElem?_append_right (by omega), hcl]; simp) (Rdu_append k7 hN)
        refine ⟨_, _, B, by rw [hsv]; exact hr, hrm.1, ⟨e, xs ++ ys, upd_same _ _ _, Nat.le_of_eq hel.symm, rfl, fun _ => ⟨fun h => ?_, fun b' hb' => ?_⟩⟩⟩
        · rw [k1] at h; cases h
        · rw [k1] at hb'; injection hb' with hb'; subst hb'
          exact ⟨_, hput, cap, rfl, hroom, m4, by rw [hsp]; exact m5⟩
      · refine fresh c (by omega) k7 ?_
        exact run_firstCells_some (P := P) w.drew i.size xs.length ⟨b, 0, none⟩ xs.length cap c (by rw [hcl]) (by simpa using cells_of_row k9)
theorem ok_append_own {s x : Operand} {t tx e : TypeId} {es bytes : Nat} {ea : Bool} {g len len' : Nat} {xs ys : List AV} {src : AV} (hd : dOk nt d = true) (hs : tb.ti t = some (.sl e es bytes ea)) (hx : evalO T s = some (.own g es len .row)) (hg : H g = some (.own e es xs)) (hln : len = xs.length)
    (hy : evalO T x = some src) (hsrc : SrcOf P tx es src ys) (hln' : len' = xs.length + ys.length) (hlen : (xs.length + ys.length) * bytes ≤ 140737488355328) (hlen2 : xs.length + ys.length ≤ 9223372036854775807) :
    OpOK P E nt ops ⟨d, .call { callee := .builtin .append, args := #[s, x], argTypes := #[t, tx] }, ty, pos, af, gd⟩ T H [g] ⟨.own g es len' .row, [(g, .own e es (xs ++ ys))]⟩ :=
  ok_eff hd fun B T' H' a w r ht hh hw => by
    subst hln hln'
    have hg' := (hh g (by simp)).trans hg
    have h := own_v (r.eval ((ht s (by simp [Op.operands, Call.operands])).trans hx))
    obtain ⟨v, w', B', h1, h2, h3⟩ := own_append tb (ty := ty) r hs h hg' (hsrc E B H' w _ (r.eval ((ht x (by simp [Op.operands, Call.operands])).trans hy))) hlen hlen2
    exact ⟨v, w', B', by simp [execOp, resolve, invoke, builtin, h1], h2, own_i h3⟩
/-- a place in the row -/
theorem ok_idx_own {x ix : Operand} {t e : TypeId} {es bytes : Nat} {ea : Bool} {g len : Nat} {xs : List AV} {k : IntKind} {i : Int} (hd : dOk nt d = true) (hs : tb.ti t = some (.sl e es bytes ea)) (hx : evalO T x = some (.own g es len .row)) (hg : H g = some (.own e es xs)) (hln : len = xs.length) (hi : evalO T ix = some (.v (.int k i)))
    (h0 : 0 ≤ i) (hl : i < (len : Int)) : OpOK P E nt ops ⟨d, .indexAddr t x ix, ty, pos, af, gd⟩ T H [g] ⟨.own g es len (.at (i.toNat * es) [i.toNat]), []⟩ :=
  ok_val hd fun B T' H' a w r ht hh => by
    subst hln
    have hg' := (hh g (by simp)).trans hg
    have h := own_v (r.eval ((ht x (by simp [Op.operands])).trans hx))
    have hj := r.evalv ((ht ix (by simp [Op.operands])).trans hi)
    obtain ⟨hn1, hn2⟩ := h.now hg' rfl
    obtain ⟨hpos, hbox⟩ := r.ownAt hg'
    rcases hbox with ⟨k1, k2⟩ | ⟨b, cur, cp, c, k1, k2, _⟩
    · subst k2; simp at hl; omega
    · obtain ⟨cu, m1, cap, m2, _⟩ := hn2 b k1
      obtain ⟨_, hu, he, _⟩ := tb.ok t _ hs
      have hz := run_sizeOf_of he w
      refine ⟨.pointer (some ⟨b, i.toNat * es, none⟩), ?_, own_i ⟨e, xs, hg', Nat.le_refl _, rfl, fun _ => ⟨fun h => (by rw [k1] at h; cases h), fun b' hb' => ?_⟩⟩⟩
      · simp [execOp, m2, hj, Instr.indexAt, run_underlying hu, asIntOf, hz, h0, hl, add_lit]
      · rw [k1] at hb'; injection hb' with hb'; subst hb'
        exact ⟨cu, m1, rfl⟩
theorem ok_fld_own {x : Operand} {s e : TypeId} {f n o sz : Nat} {ag : Bool} {fs : List (Nat × Nat × Bool)} {g m len off : Nat} {p : List Nat} {xs : List AV} (hd : dOk nt d = true) (hx : evalO T x = some (.own g m len (.at off p))) (hg : H g = some (.own e m xs)) (hln : len = xs.length) (h0 : 0 < xs.length) (hs : tb.ti s = some (.st n fs)) (hf : fs[f]? = some (o, sz + 1, ag)) :
    OpOK P E nt ops ⟨d, .fieldAddr s x f, ty, pos, af, gd⟩ T H [g] ⟨.own g m len (.at (off + o) (p ++ [f])), []⟩ :=
  ok_val hd fun B T' H' a w r ht hh => by
    subst hln
    have hg' := (hh g (by simp)).trans hg
    have h := own_v (r.eval ((ht x (by simp [Op.operands])).trans hx))
    obtain ⟨hn1, hn2⟩ := h.now hg' rfl
    obtain ⟨hpos, hbox⟩ := r.ownAt hg'
    rcases hbox with ⟨k1, k2⟩ | ⟨b, cur, cp, c, k1, k2, _⟩
    · subst k2; simp at h0
    · obtain ⟨cu, m1, m2⟩ := hn2 b k1
      simp only at m2
      obtain ⟨_, F, hu, hF⟩ := tb.ok s _ hs
      obtain ⟨fd, hfd, hfo, hft⟩ := fields_at hF f o (sz + 1) ag hf
      have hz := run_sizeOf_of hft w
      refine ⟨.pointer (some ⟨b, off + o, none⟩), ?_, own_i ⟨e, xs, hg', Nat.le_refl _, rfl, fun _ => ⟨fun h => (by rw [k1] at h; cases h), fun b' hb' => ?_⟩⟩⟩
      · simp [execOp, m2, Instr.fieldAt, run_underlying hu, hfd, Instr.sureAddr, fieldPlace, hz, hfo, add_lit]
      · rw [k1] at hb'; injection hb' with hb'; subst hb'
        exact ⟨cu, m1, rfl⟩
theorem ok_load_own {x : Operand} {t e : TypeId} {g n len off : Nat} {p : List Nat} {xs : List AV} {z : AV} (hd : dOk nt d = true) (hx : evalO T x = some (.own g n len (.at off p))) (hg : H g = some (.own e n xs)) (hln : len = xs.length) (h0 : 0 < xs.length) (hp : subA p (.arr (xs.length * n) n xs) = some z) (ho : offA p (.arr (xs.length * n) n xs) = off) (hs : tb.sa t = some (isAggA z, sizeA z)) :
    OpOK P E nt ops ⟨d, .load t x, ty, pos, af, gd⟩ T H [g] ⟨z, []⟩ :=
  ok_val hd fun B T' H' a w r ht hh => by
    subst hln
    have hg' := (hh g (by simp)).trans hg
    have h := own_v (r.eval ((ht x (by simp [Op.operands])).trans hx))
    obtain ⟨hn1, hn2⟩ := h.now hg' rfl
    obtain ⟨hpos, hbox⟩ := r.ownAt hg'
    rcases hbox with ⟨k1, k2⟩ | ⟨b, cur, cp, c, k1, k2, k3, k4, k5, k6, k7, k8, k9⟩
    · subst k2; simp at h0
    · obtain ⟨cu, m1, m2⟩ := hn2 b k1
      simp only at m2
      have hR : Rd (unst E B H') w (.arr (xs.length * n) n xs) B H' c := by simp only [Rd]; exact ⟨Rdu_len k7, k7⟩
      obtain ⟨c1, c2, c3, rfl, q1, q2, _⟩ := Rd_sub p hR hp
      rw [← Rdu_len k7] at k9
      have hrow := row_mid k9
      rw [Nat.zero_add, q1, ho] at hrow
      have hr := run_loadVar_of (tb.tyOf hs) (by rw [← Rd_len q2]; exact hrow) size1
      rw [pack_if q2] at hr
      refine ⟨pack z c2, ?_, by rw [Rdv_not (Rd_notup q2)]; exact ⟨c2, q2, rfl⟩⟩
      simp [execOp, m2, Instr.loadAt, Instr.sureAddr, hr]
theorem ok_store_own {x y : Operand} {t e : TypeId} {g n len off : Nat} {p : List Nat} {v old : AV} {xs ys : List AV} (hd : dOk nt d = true) (hx : evalO T x = some (.own g n len (.at off p))) (hy : evalO T y = some v) (hg : H g = some (.own e n xs)) (hln : len = xs.length) (h0 : 0 < xs.length) (hp : subA p (.arr (xs.length * n) n xs) = some old) (ho : offA p (.arr (xs.length * n) n xs) = off)
    (hv : setA v p (.arr (xs.length * n) n xs) = some (.arr (xs.length * n) n ys)) (hs : tb.sa t = some (isAggA v, sizeA v)) (hs' : sizeA v = sizeA old) (hnt : notTup v = true) : OpOK P E nt ops ⟨none, .store t x y, ty, pos, af, gd⟩ T H [g] ⟨.tup [], [(g, .own e n ys)]⟩ := by
  intro T' H' ht hh hw B a w r K Q hK
  subst hln
  have hg' := (hh g (by simp)).trans hg
  have h := own_v (r.eval ((agree_op ht (by simp [Op.operands])).trans hx))
  have hv2 := r.eval ((agree_op ht (x := y) (by simp [Op.operands])).trans hy)
  rw [Rdv_not (notTup_ne hnt)] at hv2
  obtain ⟨c', hc1, hc2⟩ := hv2
  obtain ⟨hn1, hn2⟩ := h.now hg' rfl
  obtain ⟨hpos, hbox⟩ := r.ownAt hg'
  rcases hbox with ⟨k1, k2⟩ | ⟨b, cur, cp, c, k1, k2, k3, k4, k5, k6, k7, k8, k9⟩
  · subst k2; simp at h0
  · obtain ⟨cu, m1, m2⟩ := hn2 b k1
    simp only at m2
    have hR : Rd (unst E B H') w (.arr (xs.length * n) n xs) B H' c := by simp only [Rd]; exact ⟨Rdu_len k7, k7⟩
    have hcl := Rdu_len k7
    obtain ⟨c1, c2, c3, rfl, q1, q2, q3⟩ := Rd_sub p hR hp
    have hl : c'.length = c2.length := by rw [Rd_len hc1, Rd_len q2, hs']
    have hle : xs.length * n ≤ cur.size := by rw [k3]; exact Nat.mul_le_mul_right _ k4
    have hfit : off + c'.length ≤ cur.size := by simp at hcl; omega
    have hst := run_storeVar_of (tb.tyOf hs) (off := off) (v := a.eval y) (c := c') (by rw [hc2]; exact pack_cells hc1) k2 (Rd_len hc1) (by rw [← Rd_len hc1]; exact hfit) (Rd_one v hc1)
    have hy2 := q3 v _ c' hv hc1 hl
    simp only [Rd] at hy2
    have hyl : ys.length = xs.length := by
      have h1 := Rdu_len hy2.2
      have h2 : (c1 ++ c' ++ c3).length = (c1 ++ c2 ++ c3).length := by simp [hl]
      rw [h2, hcl] at h1
      exact (Nat.eq_of_mul_eq_mul_right hpos h1).symm
    have hput := putRow_heap_same (off := off) (cs := c'.toArray) k2
    have hsp : (splice cur off c'.toArray).size = cur.size := splice_size _ _ _ (by simpa using hfit)
    have hrm := r.ownPut (ys := ys) (c' := c1 ++ c' ++ c3) hg' k1 k2 k3 (by omega) (by omega) k5 turned_put hput hsp (fun o ho' => by
      rw [hyl] at ho'
      rw [splice_get (by simpa using hfit)]
      have hk := k6 o ho'
      by_cases h1 : off ≤ o ∧ o < off + c'.toArray.size
      · rw [if_pos h1]
        obtain ⟨h1, h2⟩ := h1
        rw [List.getElem?_append_left (by simp at h2 ⊢; omega), List.getElem?_append_right (by omega)]
        simp [q1, ho]
      · rw [if_neg h1, hk]
        have h2 : o < off ∨ off + c'.length ≤ o := by simp at h1; omega
        rcases h2 with h2 | h2
        · rw [List.append_assoc, List.append_assoc, List.getElem?_append_left (by omega), List.getElem?_append_left (by omega)]
        · rw [List.getElem?_append_right (by simp; omega), List.getElem?_append_right (by simp; omega)]
          simp [hl]) hy2.2
    unfold Oper.wp
    have he : (execOp a.eval ⟨none, .store t x y, ty, pos, af, gd⟩).run P w = .ok .skip (putRow w b off c'.toArray) := by
      simp [execOp, m2, Instr.storeAt, Instr.sureAddr, hst]
    rw [he]
    exact hK B _ _ hrm.1
end
/-! ### the row stays from here on: a list again -/
mutual
/-- y is x, where the own row g is let be -/
def Thw (g n : Nat) (xs : List AV) : AV → AV → Prop
  | .own g' n' len k, y => match Nat.beq g' g with
    | true => n' = n ∧ len = xs.length ∧ k = .row ∧ y = .sl (some g) n xs
    | false => y = .own g' n' len k
  | .agg m fs, y => match y with
    | .agg m' us => m' = m ∧ ThwL g n xs fs us
    | _ => False
  | x, y => (namesA x).all (fun j => !Nat.beq j g) = true ∧ y = x
def ThwL (g n : Nat) (xs : List AV) : List AV → List AV → Prop
  | [], us => us = []
  | x :: l, us => match us with
    | u :: us => Thw g n xs x u ∧ ThwL g n xs l us
    | [] => False
end
def ThwT (g n : Nat) (xs : List AV) (T : List (Nat × AV)) : List (Nat × AV) → Prop
  | [] => True
  | (s, y) :: l => (match look s T with | some x => Thw g n xs x y | none => False) ∧ ThwT g n xs T l
def ThwB (g n : Nat) (xs : List AV) : Bx → Bx → Prop
  | .var x, b => match b with
    | .var y => Thw g n xs x y
    | _ => False
  | .froz x, b => match b with
    | .froz y => Thw g n xs x y
    | _ => False
  | b0, b => b = b0
def ThwH (g n : Nat) (e : TypeId) (xs : List AV) (H : List (Nat × Bx)) : List (Nat × Bx) → Prop
  | [] => True
  | (j, b) :: l => (match Nat.beq j g with
    | true => b = .tail e n xs.length
    | false => match look j H with | some b0 => ThwB g n xs b0 b | none => False) ∧ ThwH g n e xs H l
theorem ThwT.at {g n : Nat} {xs : List AV} {T : List (Nat × AV)} : ∀ {l : List (Nat × AV)}, ThwT g n xs T l → ∀ p ∈ l, ∃ x, look p.1 T = some x ∧ Thw g n xs x p.2
  | [], _, p, h => by cases h
  | (s, y) :: l, ⟨h1, h2⟩, p, h => by
    rcases List.mem_cons.1 h with rfl | h
    · cases hs : look s T with
      | none => rw [hs] at h1; exact h1.elim
      | some x => rw [hs] at h1; exact ⟨x, rfl, h1⟩
    · exact h2.at p h
theorem ThwH.at {g n : Nat} {e : TypeId} {xs : List AV} {H : List (Nat × Bx)} : ∀ {l : List (Nat × Bx)}, ThwH g n e xs H l → ∀ p ∈ l, (p.1 = g ∧ p.2 = .tail e n xs.length) ∨ (p.1 ≠ g ∧ ∃ b0, look p.1 H = some b0 ∧ ThwB g n xs b0 p.2)
  | [], _, p, h => by cases h
  | (j, b) :: l, ⟨h1, h2⟩, p, h => by
    rcases List.mem_cons.1 h with rfl | h
    · cases hj : Nat.beq j g
      · rw [hj] at h1
        have hne : j ≠ g := fun e => by subst e; simp at hj
        cases hs : look j H with
        | none => rw [hs] at h1; exact h1.elim
        | some b0 => rw [hs] at h1; exact .inr ⟨hne, b0, rfl, h1⟩
      · rw [hj] at h1
        exact .inl ⟨Nat.eq_of_beq_eq_true hj, h1⟩
    · exact h2.at p h
section
variable {E : Env} {nt : Nat} {B : Blk} {T : Nat → Option AV} {H : Hp} {a : Act} {w : World} {g n : Nat} {e : TypeId} {xs : List AV}
theorem names_ne {l : List Nat} (h : l.all (fun j => !Nat.beq j g) = true) : ∀ j ∈ l, j ≠ g := fun j hj e => by
  have := List.all_eq_true.1 h j hj
  subst e
  simp at this
theorem thw_unst (hg : H g = some (.own e n xs)) {b o : Nat} (h : unst E B (upd H g (.tail e n xs.length)) b o) : unst E B H b o := by
  rcases h with h | ⟨j, h1, h2⟩
  · exact .inl h
  · refine .inr ⟨j, h1, ?_⟩
    by_cases hj : j = g
    · subst hj; rw [hg]; trivial
    · rwa [upd_ne _ _ hj] at h2
theorem thw_same (hg : H g = some (.own e n xs)) {x : AV} (hx : (namesA x).all (fun j => !Nat.beq j g) = true) {c : List Value} (h : Rd (unst E B H) w x B H c) : Rd (unst E B (upd H g (.tail e n xs.length))) w x B (upd H g (.tail e n xs.length)) c :=
  Rd_names x (fun j hj => ⟨upd_ne _ _ (names_ne hx j hj), rfl⟩) (Rd_go (Evo.refl _ w) (fun b o _ h => thw_unst hg h) x ⟨fun _ _ _ h => h, fun _ h => h, fun _ _ _ _ _ h => h, fun _ _ _ _ _ h => h⟩ h)
theorem thw_own (r : Rel E nt B T H a w) (hg : H g = some (.own e n xs)) {v : Value} (h : OwnOk w B H g n xs.length .row v) : Rd (unst E B (upd H g (.tail e n xs.length))) w (.sl (some g) n xs) B (upd H g (.tail e n xs.length)) [v] := by
  obtain ⟨hn1, hn2⟩ := h.now hg rfl
  obtain ⟨hpos, hbox⟩ := r.ownAt hg
  simp only [Rd]
  rcases hbox with ⟨k1, k2⟩ | ⟨b, cur, cp, c, k1, k2, k3, k4, k5, k6, k7, k8, k9⟩
  · subst k2
    rw [hn1 k1]
    refine ⟨none, 0, rfl, Nat.le_refl _, Nat.zero_le _, fun h => absurd h (by simp), fun t ht => ?_⟩
    injection ht with ht; subst ht
    exact ⟨e, 0, upd_same _ _ _, Nat.le_refl _, fun _ => ⟨fun _ => ⟨rfl, rfl⟩, fun b hb => by rw [k1] at hb; cases hb⟩⟩
  · obtain ⟨cu, m1, cap, m2, m3, m4, m5⟩ := hn2 b k1
    rw [k2] at m1; injection m1 with m1; injection m1 with m1 _ _; subst m1
    rw [m2]
    refine ⟨_, cap, rfl, m3, m4, fun _ => ⟨b, 0, c, rfl, k9, fun o _ ho hun => ?_, Rdu_go (Evo.refl _ w) (fun b o _ h => thw_unst hg h) n xs (Pic.refl0 _ _) k7⟩, fun t ht => ?_⟩
    · rcases hun with ⟨q1, _, q3⟩ | ⟨j, q1, q2⟩
      · rcases k8 with k8 | k8
        · omega
        · exact q3 k8.2.1
      · by_cases hj : j = g
        · subst hj
          rw [upd_same] at q2
          have q2' : xs.length * n ≤ o := q2
          omega
        · rw [upd_ne _ _ hj] at q2
          cases hh : H j with
          | none => rw [hh] at q2; exact q2
          | some bj =>
            rw [hh] at q2
            refine hj (r.inj j g b ?_ (by rw [hg]; rfl) q1 k1)
            rw [hh]
            cases bj <;> first | rfl | exact q2.elim
    · injection ht with ht; subst ht
      refine ⟨e, xs.length, upd_same _ _ _, Nat.le_refl _, fun _ => ⟨fun hn => (by rw [k1] at hn; cases hn), fun b' hb' => ?_⟩⟩
      rw [k1] at hb'; injection hb' with hb'; subst hb'
      exact ⟨rfl, cur, k2, m5⟩
mutual
theorem thw_rd (r : Rel E nt B T H a w) (hg : H g = some (.own e n xs)) : ∀ (x y : AV), Thw g n xs x y → ∀ {c : List Value}, Rd (unst E B H) w x B H c → Rd (unst E B (upd H g (.tail e n xs.length))) w y B (upd H g (.tail e n xs.length)) c
  | .own g' n' len k, y, ht, c, h => by
    simp only [Thw] at ht
    cases hj : Nat.beq g' g
    · rw [hj] at ht
      simp only at ht
      subst ht
      refine thw_same hg ?_ h
      simp [namesA, hj]
    · rw [hj] at ht
      simp only at ht
      obtain ⟨rfl, rfl, rfl, rfl⟩ := ht
      have := Nat.eq_of_beq_eq_true hj
      subst this
      simp only [Rd] at h
      obtain ⟨v, h1, rfl⟩ := h
      exact thw_own r hg h1
  | .agg m fs, y, ht, c, h => by
    simp only [Thw] at ht
    cases y with
    | agg m' us =>
      simp only at ht
      obtain ⟨rfl, ht⟩ := ht
      simp only [Rd] at h ⊢
      exact ⟨h.1, thw_rds r hg fs us ht h.2⟩
    | _ => exact ht.elim
  | .v x, y, ht, c, h => by simp only [Thw] at ht; obtain ⟨h1, rfl⟩ := ht; exact thw_same hg h1 h
  | .arr m k zs, y, ht, c, h => by simp only [Thw] at ht; obtain ⟨h1, rfl⟩ := ht; exact thw_same hg h1 h
  | .ptr j off p, y, ht, c, h => by simp only [Thw] at ht; obtain ⟨h1, rfl⟩ := ht; exact thw_same hg h1 h
  | .ref x, y, ht, c, h => by simp only [Thw] at ht; obtain ⟨h1, rfl⟩ := ht; exact thw_same hg h1 h
  | .sl t k zs, y, ht, c, h => by simp only [Thw] at ht; obtain ⟨h1, rfl⟩ := ht; exact thw_same hg h1 h
  | .seg j off k p l cp, y, ht, c, h => by simp only [Thw] at ht; obtain ⟨h1, rfl⟩ := ht; exact thw_same hg h1 h
  | .tup vs, y, ht, c, h => by simp [Rd] at h
  | .fn f x y', y, ht, c, h => by simp only [Thw] at ht; obtain ⟨h1, rfl⟩ := ht; exact thw_same hg h1 h
  | .ifc t x, y, ht, c, h => by simp only [Thw] at ht; obtain ⟨h1, rfl⟩ := ht; exact thw_same hg h1 h
theorem thw_rds (r : Rel E nt B T H a w) (hg : H g = some (.own e n xs)) : ∀ (l us : List AV), ThwL g n xs l us → ∀ {c : List Value}, Rds (unst E B H) w l B H c → Rds (unst E B (upd H g (.tail e n xs.length))) w us B (upd H g (.tail e n xs.length)) c
  | [], us, ht, c, h => by
    simp only [ThwL] at ht
    subst ht
    simpa [Rds] using h
  | x :: l, us, ht, c, h => by
    simp only [ThwL] at ht
    cases us with
    | nil => exact ht.elim
    | cons u us =>
      simp only at ht
      simp only [Rds] at h ⊢
      obtain ⟨c1, c2, h1, h2, h3⟩ := h
      exact ⟨c1, c2, h1, thw_rd r hg x u ht.1 h2, thw_rds r hg l us ht.2 h3⟩
end
theorem thw_pack : ∀ (x y : AV), Thw g n xs x y → (∀ us, x ≠ .tup us) → (∀ us, y ≠ .tup us) ∧ ∀ (c : List Value), pack x c = pack y c
  | .own g' n' len k, y, ht, _ => by
    simp only [Thw] at ht
    cases hj : Nat.beq g' g
    · rw [hj] at ht
      simp only at ht
      subst ht
      simp
    · rw [hj] at ht
      simp only at ht
      obtain ⟨rfl, rfl, rfl, rfl⟩ := ht
      refine ⟨by simp, fun c => ?_⟩
      match c with
      | [] => rfl
      | [_] => rfl
      | _ :: _ :: _ => rfl
  | .agg m fs, y, ht, _ => by
    simp only [Thw] at ht
    cases y with
    | agg m' us => exact ⟨by simp, fun c => rfl⟩
    | _ => exact ht.elim
  | .v x, y, ht, hn => by simp only [Thw] at ht; obtain ⟨h1, rfl⟩ := ht; exact ⟨hn, fun _ => rfl⟩
  | .arr m k zs, y, ht, hn => by simp only [Thw] at ht; obtain ⟨h1, rfl⟩ := ht; exact ⟨hn, fun _ => rfl⟩
  | .ptr j off p, y, ht, hn => by simp only [Thw] at ht; obtain ⟨h1, rfl⟩ := ht; exact ⟨hn, fun _ => rfl⟩
  | .ref x, y, ht, hn => by simp only [Thw] at ht; obtain ⟨h1, rfl⟩ := ht; exact ⟨hn, fun _ => rfl⟩
  | .sl t k zs, y, ht, hn => by simp only [Thw] at ht; obtain ⟨h1, rfl⟩ := ht; exact ⟨hn, fun _ => rfl⟩
  | .seg j off k p l cp, y, ht, hn => by simp only [Thw] at ht; obtain ⟨h1, rfl⟩ := ht; exact ⟨hn, fun _ => rfl⟩
  | .tup vs, y, ht, hn => absurd rfl (hn vs)
  | .fn f x y', y, ht, hn => by simp only [Thw] at ht; obtain ⟨h1, rfl⟩ := ht; exact ⟨hn, fun _ => rfl⟩
  | .ifc t x, y, ht, hn => by simp only [Thw] at ht; obtain ⟨h1, rfl⟩ := ht; exact ⟨hn, fun _ => rfl⟩
theorem thw_rdv (r : Rel E nt B T H a w) (hg : H g = some (.own e n xs)) {x y : AV} (ht : Thw g n xs x y) {v : Value} (h : Rdv (unst E B H) w B H x v) : Rdv (unst E B (upd H g (.tail e n xs.length))) w B (upd H g (.tail e n xs.length)) y v := by
  rcases isTup x with ⟨us, rfl⟩ | hx
  · simp only [Thw] at ht
    obtain ⟨h1, rfl⟩ := ht
    exact Rdv_names (fun j hj => ⟨upd_ne _ _ (names_ne h1 j hj), rfl⟩) (Rdv_go (Evo.refl _ w) (fun b o _ h => thw_unst hg h) ⟨fun _ _ _ h => h, fun _ h => h, fun _ _ _ _ _ h => h, fun _ _ _ _ _ h => h⟩ h)
  · obtain ⟨k1, k2⟩ := thw_pack x y ht hx
    rw [Rdv_not hx] at h
    rw [Rdv_not k1]
    obtain ⟨c, h1, h2⟩ := h
    exact ⟨c, thw_rd r hg x y ht h1, by rw [h2, k2 c]⟩
end
/-- an own row is let be: a list, which may be appended to -/
theorem Go2.thaw {E : Env} {nt : Nat} {S S' : St} (g : Nat) {n : Nat} {e : TypeId} {xs : List AV} (hg : look g S.H = some (.own e n xs)) (hT : ThwT g n xs S.T S'.T) (hH : ThwH g n e xs S.H S'.H) (hall : S.H.all (fun p => (look p.1 S'.H).isSome) = true) : Go2 E nt S S' := fun B a w r => by
  have hg' : S.h g = some (.own e n xs) := hg
  replace hT := hT.at
  replace hH := hH.at
  have back : ∀ j, S'.h j = none → S.h j = none := fun j hj => by
    cases hh : S.h j with
    | none => rfl
    | some b =>
      have := List.all_eq_true.1 hall _ (look_mem hh)
      rw [show look j S'.H = none from hj] at this
      cases this
  have eH : ∀ j b, S'.h j = some b → j ≠ g → ∃ b0, S.h j = some b0 ∧ ThwB g n xs b0 b := fun j b hj hne => by
    rcases hH (j, b) (look_mem hj) with ⟨h1, _⟩ | ⟨_, b0, h1, h2⟩
    · exact absurd h1 hne
    · exact ⟨b0, h1, h2⟩
  have eg : ∀ b, S'.h g = some b → b = .tail e n xs.length := fun b hb => by
    rcases hH (g, b) (look_mem hb) with ⟨_, h2⟩ | ⟨h1, _⟩
    · exact h2
    · exact absurd rfl h1
  obtain ⟨bg, hbg⟩ : ∃ b, S'.h g = some b := by
    cases hh : S'.h g with
    | none => rw [back g hh] at hg'; cases hg'
    | some b => exact ⟨b, rfl⟩
  have hbg' := eg bg hbg
  subst hbg'
  -- the shapes are as they were
  have kind : ∀ b0 b, ThwB g n xs b0 b → isVar (some b) = isVar (some b0) ∧ live (some b) = live (some b0) ∧ (∀ e' n' k, b = .tail e' n' k ↔ b0 = .tail e' n' k) ∧ ∀ e' n' ys, b = .own e' n' ys ↔ b0 = .own e' n' ys := by
    intro b0 b h
    cases b0 with
    | var x => cases b <;> simp [ThwB] at h <;> simp [isVar, live]
    | froz x => cases b <;> simp [ThwB] at h <;> simp [isVar, live]
    | tail e' n' k => simp only [ThwB] at h; subst h; simp
    | own e' n' ys => simp only [ThwB] at h; subst h; simp
  have hu : ∀ b o, unst E B S'.h b o ↔ unst E B (upd S.h g (.tail e n xs.length)) b o := by
    intro b o
    unfold unst
    refine or_congr Iff.rfl (exists_congr fun j => and_congr_right fun hb => ?_)
    by_cases hj : j = g
    · subst hj; rw [upd_same, hbg]
    · rw [upd_ne _ _ hj]
      cases hh : S'.h j with
      | none => rw [back j hh]
      | some b' =>
        obtain ⟨b0, h1, h2⟩ := eH j b' hh hj
        rw [h1]
        cases b0 with
        | var x => cases b' <;> simp [ThwB] at h2 <;> rfl
        | froz x => cases b' <;> simp [ThwB] at h2 <;> rfl
        | tail e' n' k => simp only [ThwB] at h2; subst h2; rfl
        | own e' n' ys => simp only [ThwB] at h2; subst h2; rfl
  have ue : unst E B (upd S.h g (.tail e n xs.length)) = unst E B S'.h := by
    funext b o; exact propext (hu b o).symm
  have pic : Pic w w B B (upd S.h g (.tail e n xs.length)) S'.h := by
    have at_ : ∀ j b0, upd S.h g (.tail e n xs.length) j = some b0 → ∃ b, S'.h j = some b ∧ isVar (some b) = isVar (some b0) ∧ (∀ e' n' k, b = .tail e' n' k ↔ b0 = .tail e' n' k) ∧ ∀ e' n' ys, b = .own e' n' ys ↔ b0 = .own e' n' ys := by
      intro j b0 h
      by_cases hj : j = g
      · subst hj
        rw [upd_same] at h; injection h with h; subst h
        exact ⟨_, hbg, rfl, fun _ _ _ => Iff.rfl, fun _ _ _ => Iff.rfl⟩
      · rw [upd_ne _ _ hj] at h
        cases hh : S'.h j with
        | none => rw [back j hh] at h; cases h
        | some b =>
          obtain ⟨b1, h1, h2⟩ := eH j b hh hj
          rw [h] at h1; injection h1 with h1; subst h1
          obtain ⟨q1, _, q3, q4⟩ := kind b0 b h2
          exact ⟨b, rfl, q1, q3, q4⟩
    refine ⟨fun _ _ _ h => h, fun j h => ?_, fun t n' len A cap h => ?_, fun j n' len k v h => ?_⟩
    · cases hh : upd S.h g (.tail e n xs.length) j with
      | none => rw [hh] at h; cases h
      | some b0 =>
        obtain ⟨b, h1, h2, _⟩ := at_ j b0 hh
        rw [h1, h2, ← hh]; exact h
    · obtain ⟨e', k, h1, h2, h3⟩ := h
      obtain ⟨b, k1, _, k3, _⟩ := at_ t _ h1
      rw [(k3 e' n' k).2 rfl] at k1
      exact ⟨e', k, k1, h2, h3⟩
    · obtain ⟨e', ys, h1, h2, h3, h4⟩ := h
      obtain ⟨b, k1, _, _, k4⟩ := at_ j _ h1
      rw [(k4 e' n' ys).2 rfl] at k1
      exact ⟨e', ys, k1, h2, h3, h4⟩
  have sub : ∀ b o, b < w.heap.size → unst E B S'.h b o → unst E B (upd S.h g (.tail e n xs.length)) b o := fun b o _ h => (hu b o).1 h
  refine ⟨B, r.nt, r.df, fun s y hy => ?_, fun j b hj => ?_, fun j hj => r.non j (back j hj), fun j j' b h1 h2 h3 h4 => ?_, r.left, fun j hj => r.keep j (back j hj)⟩
  · obtain ⟨x, h1, h2⟩ := hT (s, y) (look_mem hy)
    obtain ⟨v, h3, h4⟩ := r.tmp s x h1
    exact ⟨v, h3, Rdv_go (Evo.refl _ w) sub pic (thw_rdv r hg' h2 h4)⟩
  · by_cases hjg : j = g
    · subst hjg
      rw [hbg] at hj; injection hj with hj; subst hj
      obtain ⟨hn, hT0, hbox⟩ := r.box j _ hg'
      refine ⟨hn, hT0, ?_⟩
      rcases hbox with ⟨k1, k2⟩ | ⟨b, cur, cap, c, k1, k2, k3, k4, k5, k6, k7, k8⟩
      · exact .inl ⟨k1, by rw [k2]; rfl⟩
      · exact .inr ⟨b, cur, cap, k1, k2, k3, k4, k5, k8.mono (Nat.zero_le _)⟩
    · obtain ⟨b0, h1, h2⟩ := eH j b hj hjg
      have hb := r.box j b0 h1
      cases b0 with
      | var x =>
        cases b <;> simp only [ThwB] at h2
        rename_i y
        obtain ⟨bb, cs, t, k1, k2, k3, k4⟩ := hb
        exact ⟨bb, cs, t, k1, k2, Rd_go (Evo.refl _ w) sub y pic (thw_rd r hg' x y h2 k3), k4⟩
      | froz x =>
        cases b <;> simp only [ThwB] at h2
        rename_i y
        obtain ⟨bb, cs, k1, k2, k3, k4⟩ := hb
        exact ⟨bb, cs, k1, k2, fun o q1 q2 q3 => k3 o q1 q2 (thw_unst hg' ((hu _ _).1 q3)), Rd_go (Evo.refl _ w) sub y pic (thw_rd r hg' x y h2 k4)⟩
      | tail e' n' k => simp only [ThwB] at h2; subst h2; exact hb
      | own e' n' ys =>
        simp only [ThwB] at h2; subst h2
        obtain ⟨k0, kT, k1⟩ := hb
        refine ⟨k0, kT, k1.imp id ?_⟩
        rintro ⟨bb, cur, cap, c, m1, m2, m3, m4, m5, m6, m7, m8⟩
        exact ⟨bb, cur, cap, c, m1, m2, m3, m4, m5, m6, Rdu_go (Evo.refl _ w) (fun b o _ h => thw_unst hg' ((hu b o).1 h)) n' ys (Pic.refl0 _ _) m7, m8⟩
  · have lv : ∀ j, live (S'.h j) = true → live (S.h j) = true := fun j hj => by
      by_cases hjg : j = g
      · subst hjg; rw [hg']; rfl
      · cases hh : S'.h j with
        | none => rw [hh] at hj; cases hj
        | some b =>
          obtain ⟨b0, k1, k2⟩ := eH j b hh hjg
          rw [k1, ← (kind b0 b k2).2.1, ← hh]; exact hj
    exact r.inj j j' b (lv j h1) (lv j' h2) h3 h4
section
variable {E : Env} {nt : Nat} {ops : Array Oper} {T : Nat → Option AV} {H : Hp} {d : Option Nat} {ty : TypeId} {pos : String} {af : Array Edge} {gd : Option (Nat × Bool)}
/-- an own row of none -/
theorem o_bsl0O {t e : TypeId} {es bytes : Nat} {ea : Bool} {g : Nat} (hd : dOk nt (some g) = true) (hs : tabT.ti t = some (.sl e (es + 1) bytes ea)) (hg : H g = none) :
    OpOK Try.prog E nt ops ⟨some g, .buildSlice t 0 #[], ty, pos, af, gd⟩ T H [] ⟨.own g (es + 1) 0 .row, [(g, .own e (es + 1) [])]⟩ :=
  ok_eff hd fun B T' H' a w r ht hh hw' => by
    have hg' : H' g = none := (hw' (g, .own e (es + 1) []) (by simp)).trans hg
    obtain ⟨_, hu, hte, i, zv, z1, z2, z3, z4, z5⟩ := tabT.ok t _ hs
    have hrun := run_buildSlice0 w t e i hu z1
    have hfin : (execOp a.eval ⟨some g, .buildSlice t 0 #[], ty, pos, af, gd⟩).run Try.prog w = .ok (.value (.slice (some ⟨w.heap.size, 0, none⟩) 0 0)) (w.alloc (.cells #[] e)) := by simp [execOp, hrun]
    have hm : 0 ≤ maxLen := Nat.zero_le _
    refine ⟨_, _, _, hfin, r.new hg' ⟨Nat.succ_pos es, Tie.none (r.keep _ hg'), .inr ⟨w.heap.size, #[], 0, [], upd_same _ _ _, heap_alloc_new w _, by simp, Nat.le_refl _, hm, fun o ho => by simp at ho, by simp [Rdu], .inl r.left.size⟩⟩, own_i ⟨e, [], upd_same _ _ _, Nat.le_refl _, rfl, fun _ => ⟨fun h => ?_, fun b hb => ?_⟩⟩⟩
    · rw [upd_same] at h; cases h
    · rw [upd_same] at hb; injection hb with hb; subst hb
      exact ⟨#[], heap_alloc_new w _, 0, rfl, Nat.le_refl _, hm, by simp⟩
/-- appended to an own row of none -/
theorem oo_app0 {α : Type} {f : α → AV} {s x : Operand} {t tx e : TypeId} {es bytes : Nat} {ea : Bool} {g : Nat} {zs : List α} {src : AV} (hd : dOk nt d = true) (hs : tabT.ti t = some (.sl e es bytes ea)) (hx : evalO T s = some (.own g es 0 .row)) (hg : H g = some (.own e es []))
    (hy : evalO T x = some src) (hsrc : SrcOf Try.prog tx es src (zs.map f)) (hlen : zs.length * bytes ≤ 140737488355328) (hlen2 : zs.length ≤ 9223372036854775807) :
    OpOK Try.prog E nt ops ⟨d, .call { callee := .builtin .append, args := #[s, x], argTypes := #[t, tx] }, ty, pos, af, gd⟩ T H [g] ⟨.own g es zs.length .row, [(g, .own e es (zs.map f))]⟩ := by
  have := ok_append_own tabT (E := E) (ops := ops) (H := H) (ty := ty) (pos := pos) (af := af) (gd := gd) (len' := zs.length) hd hs hx hg rfl hy hsrc (by simp) (by simpa using hlen) (by simpa using hlen2)
  rwa [List.nil_append] at this
theorem oo_app {α : Type} {f : α → AV} {s x : Operand} {t tx e : TypeId} {es bytes : Nat} {ea : Bool} {g : Nat} {xs zs : List α} {src : AV} (hd : dOk nt d = true) (hs : tabT.ti t = some (.sl e es bytes ea)) (hx : evalO T s = some (.own g es xs.length .row)) (hg : H g = some (.own e es (xs.map f)))
    (hy : evalO T x = some src) (hsrc : SrcOf Try.prog tx es src (zs.map f)) (hlen : (xs.length + zs.length) * bytes ≤ 140737488355328) (hlen2 : xs.length + zs.length ≤ 9223372036854775807) :
    OpOK Try.prog E nt ops ⟨d, .call { callee := .builtin .append, args := #[s, x], argTypes := #[t, tx] }, ty, pos, af, gd⟩ T H [g] ⟨.own g es (xs ++ zs).length .row, [(g, .own e es ((xs ++ zs).map f))]⟩ := by
  have := ok_append_own tabT (E := E) (ops := ops) (H := H) (ty := ty) (pos := pos) (af := af) (gd := gd) (len' := (xs ++ zs).length) hd hs hx hg (by simp) hy hsrc (by simp) (by simpa using hlen) (by simpa using hlen2)
  rwa [← List.map_append] at this
theorem oo_idx {α : Type} {f : α → AV} {x ix : Operand} {t e : TypeId} {es bytes : Nat} {ea : Bool} {g : Nat} {xs : List α} {k : IntKind} {n : Int} {i : Nat} (hd : dOk nt d = true) (hs : tabT.ti t = some (.sl e es bytes ea)) (hx : evalO T x = some (.own g es xs.length .row)) (hg : H g = some (.own e es (xs.map f))) (hi : evalO T ix = some (.v (.int k n))) (hn : natOf n = some i)
    (hl : i < xs.length) : OpOK Try.prog E nt ops ⟨d, .indexAddr t x ix, ty, pos, af, gd⟩ T H [g] ⟨.own g es xs.length (.at (i * es) [i]), []⟩ := by
  have := natOf_eq hn; subst this
  exact ok_idx_own tabT (E := E) (ops := ops) (H := H) (ty := ty) (pos := pos) (af := af) (gd := gd) hd hs hx hg (by simp) hi (Int.natCast_nonneg _) (by omega)
theorem oo_fld {α : Type} {f : α → AV} {x : Operand} {s e : TypeId} {fd n o sz : Nat} {ag : Bool} {fs : List (Nat × Nat × Bool)} {g m off : Nat} {p : List Nat} {xs : List α} (hd : dOk nt d = true) (hx : evalO T x = some (.own g m xs.length (.at off p))) (hg : H g = some (.own e m (xs.map f))) (h0 : 0 < xs.length) (hs : tabT.ti s = some (.st n fs)) (hf : fs[fd]? = some (o, sz + 1, ag)) :
    OpOK Try.prog E nt ops ⟨d, .fieldAddr s x fd, ty, pos, af, gd⟩ T H [g] ⟨.own g m xs.length (.at (off + o) (p ++ [fd])), []⟩ :=
  ok_fld_own tabT (E := E) (ops := ops) (H := H) (ty := ty) (pos := pos) (af := af) (gd := gd) hd hx hg (by simp) (by simpa using h0) hs hf
theorem oo_load {α : Type} {f : α → AV} {x : Operand} {t e : TypeId} {g n off : Nat} {p : List Nat} {xs : List α} {z : AV} (hd : dOk nt d = true) (hx : evalO T x = some (.own g n xs.length (.at off p))) (hg : H g = some (.own e n (xs.map f))) (h0 : 0 < xs.length) (hp : subA p (.arr ((xs.map f).length * n) n (xs.map f)) = some z) (ho : offA p (.arr ((xs.map f).length * n) n (xs.map f)) = off) (hs : tabT.sa t = some (isAggA z, sizeA z)) :
    OpOK Try.prog E nt ops ⟨d, .load t x, ty, pos, af, gd⟩ T H [g] ⟨z, []⟩ :=
  ok_load_own tabT (E := E) (ops := ops) (H := H) (ty := ty) (pos := pos) (af := af) (gd := gd) hd hx hg (by simp) (by simpa using h0) hp ho hs
theorem oo_store {α : Type} {f : α → AV} {x y : Operand} {t e : TypeId} {g n off : Nat} {p : List Nat} {v old : AV} {xs : List α} {ys : List AV} (hx : evalO T x = some (.own g n xs.length (.at off p))) (hy : evalO T y = some v) (hg : H g = some (.own e n (xs.map f))) (h0 : 0 < xs.length) (hp : subA p (.arr ((xs.map f).length * n) n (xs.map f)) = some old) (ho : offA p (.arr ((xs.map f).length * n) n (xs.map f)) = off)
    (hv : setA v p (.arr ((xs.map f).length * n) n (xs.map f)) = some (.arr ((xs.map f).length * n) n ys)) (hs : tabT.sa t = some (isAggA v, sizeA v)) (hs' : sizeA v = sizeA old) (hnt : notTup v = true) : OpOK Try.prog E nt ops ⟨none, .store t x y, ty, pos, af, gd⟩ T H [g] ⟨.tup [], [(g, .own e n ys)]⟩ :=
  ok_store_own tabT (E := E) (ops := ops) (H := H) (ty := ty) (pos := pos) (af := af) (gd := gd) (d := none) rfl hx hy hg (by simp) (by simpa using h0) hp ho hv hs hs' hnt
end
end Go.Proofs.Ytphojngdgmnpaaa

namespace Go.Proofs.Ytphojngdgmnpaaa
open Go Go.RowKit
set_option linter.unusedVariables false
set_option linter.unusedSimpArgs false
set_option maxRecDepth 100000
set_option linter.unusedSectionVars false

/-- what a call keeps of the boxes, whatever its frame -/
structure Mem (E : Env) (B : Blk) (H : Hp) (w : World) : Prop where
  box : ∀ g bx, H g = some bx → RelBox E B H w g bx
  non : ∀ g, H g = none → B g = none
  inj : ∀ g g' b, live (H g) = true → live (H g') = true → B g = some b → B g' = some b → g = g'
  left : Left E w
  keep : ∀ g, H g = none → E.eb g = none
theorem Rel.mem {E : Env} {nt : Nat} {B : Blk} {T : Nat → Option AV} {H : Hp} {a : Act} {w : World} (r : Rel E nt B T H a w) : Mem E B H w := ⟨r.box, r.non, r.inj, r.left, r.keep⟩
theorem Mem.rel {E : Env} {nt : Nat} {B : Blk} {T : Nat → Option AV} {H : Hp} {a : Act} {w : World} (m : Mem E B H w) (hn : a.tmps.size = nt) (hd : a.defers = E.df) (ht : ∀ s x, T s = some x → ∃ v, a.tmps[s]? = some v ∧ Rdv (unst E B H) w B H x v) : Rel E nt B T H a w := ⟨hn, hd, ht, m.box, m.non, m.inj, m.left, m.keep⟩
/-! ### other names -/
mutual
def renA (σ : Nat → Nat) : AV → AV
  | .v x => .v x
  | .agg n fs => .agg n (renL σ fs)
  | .arr m n xs => .arr m n xs
  | .ptr g off p => .ptr (σ g) off p
  | .ref x => .ref x
  | .sl t n xs => .sl (t.map σ) n xs
  | .seg g off n p len cap => .seg (σ g) off n p len cap
  | .tup vs => .tup (renL σ vs)
  | .fn f a b => .fn f (renL σ a) (renL σ b)
  | .ifc t x => .ifc t (renA σ x)
  | .own g n len k => .own (σ g) n len k
def renL (σ : Nat → Nat) : List AV → List AV
  | [] => []
  | x :: l => renA σ x :: renL σ l
end
def renB (σ : Nat → Nat) : Bx → Bx
  | .var x => .var (renA σ x)
  | .froz x => .froz (renA σ x)
  | .tail e n k => .tail e n k
  | .own e n xs => .own e n xs
/-- of what kind a box is, but for a variable's content -/
def shB : Option Bx → Option Bx
  | some (.var _) => some (.var (.v undef))
  | some (.froz _) => some (.froz (.v undef))
  | x => x
theorem shB_ren (σ : Nat → Nat) (bx : Bx) : shB (some (renB σ bx)) = shB (some bx) := by cases bx <;> rfl
theorem shB_var {x y : Option Bx} (h : shB x = shB y) : isVar x = isVar y := by
  cases x with
  | none => cases y with
    | none => rfl
    | some y => cases y <;> simp [shB] at h
  | some x => cases y with
    | none => cases x <;> simp [shB] at h
    | some y => cases x <;> cases y <;> simp [shB] at h <;> rfl
theorem shB_live {x y : Option Bx} (h : shB x = shB y) : live x = live y := by
  cases x with
  | none => cases y with
    | none => rfl
    | some y => cases y <;> simp [shB] at h
  | some x => cases y with
    | none => cases x <;> simp [shB] at h
    | some y => cases x <;> cases y <;> simp [shB] at h <;> rfl
theorem shB_tail {x : Option Bx} {e : TypeId} {n k : Nat} (h : shB x = some (.tail e n k)) : x = some (.tail e n k) := by
  cases x with
  | none => cases h
  | some x => cases x <;> simp [shB] at h ⊢ <;> exact h
theorem shB_own {x : Option Bx} {e : TypeId} {n : Nat} {xs : List AV} (h : shB x = some (.own e n xs)) : x = some (.own e n xs) := by
  cases x with
  | none => cases h
  | some x => cases x <;> simp [shB] at h ⊢ <;> exact h
theorem shB_un {E : Env} {x y : Option Bx} (h : shB x = shB y) (o : Nat) : (match x with | some (.var _) => True | some (.tail _ n k) => k * n ≤ o | some (.own _ _ _) => True | _ => False) ↔ (match y with | some (.var _) => True | some (.tail _ n k) => k * n ≤ o | some (.own _ _ _) => True | _ => False) := by
  cases x with
  | none => cases y with
    | none => exact Iff.rfl
    | some y => cases y <;> simp [shB] at h
  | some x => cases y with
    | none => cases x <;> simp [shB] at h
    | some y =>
      cases x <;> cases y <;> simp only [shB, Option.some.injEq, Bx.tail.injEq, reduceCtorEq] at h <;> first | exact Iff.rfl | skip
      obtain ⟨_, rfl, rfl⟩ := h
      exact Iff.rfl
section
variable {U : Uns} {w : World} {B B' : Blk} {H H' : Hp} {σ : Nat → Nat}
theorem tok_ren {t n len cap : Nat} {A : Option Addr} (h1 : shB (H' (σ t)) = shB (H t)) (h2 : B' (σ t) = B t) : TokOk w B' H' (σ t) n len A cap ↔ TokOk w B H t n len A cap := by
  unfold TokOk
  rw [h2]
  constructor
  · rintro ⟨e, k, q1, q2⟩
    rw [q1] at h1
    exact ⟨e, k, shB_tail h1.symm, q2⟩
  · rintro ⟨e, k, q1, q2⟩
    rw [q1] at h1
    exact ⟨e, k, shB_tail h1, q2⟩
theorem own_ren {g n len : Nat} {k : OwnK} {v : Value} (h1 : shB (H' (σ g)) = shB (H g)) (h2 : B' (σ g) = B g) : OwnOk w B' H' (σ g) n len k v ↔ OwnOk w B H g n len k v := by
  unfold OwnOk
  rw [h2]
  constructor
  · rintro ⟨e, xs, q1, q2⟩
    rw [q1] at h1
    exact ⟨e, xs, shB_own h1.symm, q2⟩
  · rintro ⟨e, xs, q1, q2⟩
    rw [q1] at h1
    exact ⟨e, xs, shB_own h1, q2⟩
theorem pack_ren (x : AV) (c : List Value) : pack (renA σ x) c = pack x c := by
  cases x <;> simp only [renA] <;> first | rfl | (match c with | [] => rfl | [_] => rfl | _ :: _ :: _ => rfl)
mutual
theorem Rd_ren : ∀ (x : AV), (∀ g ∈ namesA x, shB (H' (σ g)) = shB (H g) ∧ B' (σ g) = B g) → ∀ {cs : List Value}, Rd U w (renA σ x) B' H' cs ↔ Rd U w x B H cs
  | .v x, _, _ => by simp only [renA, Rd]
  | .agg n fs, d, _ => by
    simp only [renA, Rd]
    exact and_congr_right fun _ => Rds_ren fs (by simpa [namesA] using d)
  | .arr m n xs, _, _ => by simp only [renA, Rd]
  | .ref x, _, _ => by simp only [renA, Rd]
  | .sl none n xs, _, _ => by
    simp only [renA, Rd, Option.map_none]
    refine exists_congr fun A => exists_congr fun cap => and_congr_right fun _ => and_congr_right fun _ => and_congr_right fun _ => and_congr_right fun _ => ?_
    exact ⟨fun _ t ht => (by cases ht), fun _ t ht => (by cases ht)⟩
  | .sl (some t) n xs, d, _ => by
    obtain ⟨k1, k2⟩ := d t (by simp [namesA])
    simp only [renA, Rd, Option.map_some]
    refine exists_congr fun A => exists_congr fun cap => and_congr_right fun _ => and_congr_right fun _ => and_congr_right fun _ => and_congr_right fun _ => ?_
    constructor
    · intro h t' ht
      injection ht with ht; subst ht
      exact (tok_ren k1 k2).1 (h _ rfl)
    · intro h t' ht
      injection ht with ht; subst ht
      exact (tok_ren k1 k2).2 (h _ rfl)
  | .ptr g _ _, d, _ => by
    obtain ⟨k1, k2⟩ := d g (by simp [namesA])
    simp only [renA, Rd, k2, shB_var k1]
  | .seg g _ _ _ _ _, d, _ => by
    obtain ⟨k1, k2⟩ := d g (by simp [namesA])
    simp only [renA, Rd, k2, shB_var k1]
  | .tup _, _, _ => by simp only [renA, Rd]
  | .fn f a b, d, _ => by
    simp only [namesA, List.mem_append] at d
    simp only [renA, Rd]
    exact exists_congr fun c1 => exists_congr fun c2 => and_congr_right fun _ => and_congr (Rdp_ren a (fun g hg => d g (.inl hg))) (Rdp_ren b (fun g hg => d g (.inr hg)))
  | .ifc t x, d, _ => by
    simp only [renA, Rd]
    exact exists_congr fun c => and_congr (Rd_ren x (by simpa [namesA] using d)) (by rw [pack_ren])
  | .own g _ _ _, d, _ => by
    obtain ⟨k1, k2⟩ := d g (by simp [namesA])
    simp only [renA, Rd]
    exact exists_congr fun v => and_congr (own_ren k1 k2) Iff.rfl
theorem Rds_ren : ∀ (xs : List AV), (∀ g ∈ namesL xs, shB (H' (σ g)) = shB (H g) ∧ B' (σ g) = B g) → ∀ {cs : List Value}, Rds U w (renL σ xs) B' H' cs ↔ Rds U w xs B H cs
  | [], _, _ => by simp only [renL, Rds]
  | x :: xs, d, _ => by
    simp only [namesL, List.mem_append] at d
    simp only [renL, Rds]
    exact exists_congr fun c1 => exists_congr fun c2 => and_congr_right fun _ => and_congr (Rd_ren x (fun g hg => d g (.inl hg))) (Rds_ren xs (fun g hg => d g (.inr hg)))
theorem Rdp_ren : ∀ (xs : List AV), (∀ g ∈ namesL xs, shB (H' (σ g)) = shB (H g) ∧ B' (σ g) = B g) → ∀ {cs : List Value}, Rdp U w (renL σ xs) B' H' cs ↔ Rdp U w xs B H cs
  | [], _, _ => by simp only [renL, Rdp]
  | x :: xs, d, _ => by
    simp only [namesL, List.mem_append] at d
    simp only [renL, Rdp]
    exact exists_congr fun c => exists_congr fun vs => and_congr (by rw [pack_ren]) (and_congr (Rd_ren x (fun g hg => d g (.inl hg))) (Rdp_ren xs (fun g hg => d g (.inr hg))))
end
theorem Rdv_ren {x : AV} {v : Value} (d : ∀ g ∈ namesA x, shB (H' (σ g)) = shB (H g) ∧ B' (σ g) = B g) : Rdv U w B' H' (renA σ x) v ↔ Rdv U w B H x v := by
  rcases isTup x with ⟨xs, rfl⟩ | hx
  · rw [Rdv_tup]
    simp only [renA]
    rw [Rdv_tup]
    exact exists_congr fun vs => and_congr_right fun _ => Rdp_ren xs (by simpa [namesA] using d)
  · have hx' : ∀ xs, renA σ x ≠ .tup xs := by
      intro xs h
      cases x <;> simp [renA] at h
      exact hx _ rfl
    rw [Rdv_not hx, Rdv_not hx']
    exact exists_congr fun c => and_congr (Rd_ren x d) (by rw [pack_ren])
end
/-! ### into a call -/
/-- a box's version -/
def verB : Bx → Nat
  | .tail _ _ k => k
  | .own _ _ xs => xs.length
  | _ => 0
def liveB : Bx → Bool
  | .froz _ => false
  | _ => true
theorem liveB_live {bx : Bx} (h : liveB bx = true) : live (some bx) = true := by cases bx <;> first | rfl | cases h
/-- from which cell on a box's block is unsteady -/
def fromB : Bx → Nat
  | .tail _ n k => k * n
  | _ => 0
section
variable {E : Env} {B : Blk} {H : Hp} {w : World}
theorem Mem.blk_lt (m : Mem E B H w) {g b : Nat} {bx : Bx} (h : H g = some bx) (hb : B g = some b) : b < w.heap.size := by
  have h1 := m.box g bx h
  cases bx with
  | var x => obtain ⟨b', cs, t, k1, k2, _⟩ := h1; rw [hb] at k1; injection k1 with k1; subst k1; exact heap_lt k2
  | froz x => obtain ⟨b', cs, k1, k2, _⟩ := h1; rw [hb] at k1; injection k1 with k1; subst k1; exact row_lt k2
  | tail e n k =>
    rcases h1.2.2 with ⟨k1, _⟩ | ⟨b', cur, cap, k1, k2, _⟩
    · rw [hb] at k1; cases k1
    · rw [hb] at k1; injection k1 with k1; subst k1; exact heap_lt k2
  | own e n xs =>
    rcases h1.2.2 with ⟨k1, _⟩ | ⟨b', cur, cap, c, k1, k2, _⟩
    · rw [hb] at k1; cases k1
    · rw [hb] at k1; injection k1 with k1; subst k1; exact heap_lt k2
theorem Mem.mine (m : Mem E B H w) {g b : Nat} {bx : Bx} (h : H g = some bx) (hl : liveB bx = true) (hb : B g = some b) : Mine E b (fromB bx) := by
  have h1 := m.box g bx h
  cases bx with
  | var x => obtain ⟨b', cs, t, k1, k2, k3, k4, k5⟩ := h1; rw [hb] at k1; injection k1 with k1; subst k1; exact k4
  | froz x => cases hl
  | tail e n k =>
    rcases h1.2.2 with ⟨k1, _⟩ | ⟨b', cur, cap, k1, k2, k3, k4, k5, k6⟩
    · rw [hb] at k1; cases k1
    · rw [hb] at k1; injection k1 with k1; subst k1; exact k6
  | own e n xs =>
    rcases h1.2.2 with ⟨k1, _⟩ | ⟨b', cur, cap, c, k1, k2, k3, k4, k5, k6, k7, k8⟩
    · rw [hb] at k1; cases k1
    · rw [hb] at k1; injection k1 with k1; subst k1; exact k8
theorem Mem.tie (m : Mem E B H w) {g : Nat} {bx : Bx} (h : H g = some bx) (hl : liveB bx = true) : Tie E g (verB bx) (B g) := by
  have h1 := m.box g bx h
  cases bx with
  | var x => obtain ⟨b', cs, t, k1, k2, k3, k4, k5⟩ := h1; rw [k1]; exact k5
  | froz x => cases hl
  | tail e n k => exact h1.2.1
  | own e n xs => exact h1.2.1
/-- an own block's unsteady cells -/
theorem unst_box {g b : Nat} {bx : Bx} (h : H g = some bx) (hl : liveB bx = true) (hb : B g = some b) {o : Nat} (ho : fromB bx ≤ o) : unst E B H b o := by
  refine .inr ⟨g, hb, ?_⟩
  rw [h]
  cases bx <;> first | trivial | exact ho | cases hl
theorem unst_from {g o : Nat} {bx : Bx} (h : H g = some bx) (hm : match H g with | some (.var _) => True | some (.tail _ n k) => k * n ≤ o | some (.own _ _ _) => True | _ => False) : liveB bx = true ∧ fromB bx ≤ o := by
  rw [h] at hm
  cases bx <;> first | exact ⟨rfl, Nat.zero_le _⟩ | exact ⟨rfl, hm⟩ | exact hm.elim
theorem un_live {x : Option Bx} {o : Nat} (hm : match x with | some (.var _) => True | some (.tail _ n k) => k * n ≤ o | some (.own _ _ _) => True | _ => False) : ∃ bx, x = some bx ∧ liveB bx = true ∧ fromB bx ≤ o := by
  cases x with
  | none => exact hm.elim
  | some bx => cases bx <;> first | exact ⟨_, rfl, rfl, Nat.zero_le _⟩ | exact ⟨_, rfl, rfl, hm⟩ | exact hm.elim
theorem Mem.unst_lt (m : Mem E B H w) {b o : Nat} (h : unst E B H b o) : b < w.heap.size := by
  rcases h with ⟨h, _⟩ | ⟨g, hb, h⟩
  · exact Nat.lt_of_lt_of_le h m.left.size
  · obtain ⟨bx, h1, _⟩ := un_live h
    exact m.blk_lt h1 hb
/-- of a live box's block the box alone tells what is unsteady -/
theorem Mem.unst_at (m : Mem E B H w) {g b o : Nat} {bx : Bx} (h : H g = some bx) (hl : liveB bx = true) (hb : B g = some b) (hu : unst E B H b o) : fromB bx ≤ o := by
  rcases hu with ⟨h1, h2, h3⟩ | ⟨j, h1, h2⟩
  · rcases m.mine h hl hb with k | k
    · omega
    · exact absurd k.2.1 h3
  · obtain ⟨by', h3, h4, h5⟩ := un_live h2
    have : j = g := m.inj j g b (by rw [h3]; exact liveB_live h4) (by rw [h]; exact liveB_live hl) h1 hb
    subst this
    rw [h] at h3; injection h3 with h3; subst h3
    exact h5
/-- how a call's boxes are named: by H1 inside, through σ without -/
structure Names (σ : Nat → Nat) (H H1 : Hp) : Prop where
  is : ∀ c bx, H1 c = some bx → H (σ c) = some (renB σ bx) ∧ liveB bx = true ∧ ∀ g ∈ boxNames bx, (H1 g).isSome = true
  inj : ∀ c c', (H1 c).isSome = true → (H1 c').isSome = true → σ c = σ c' → c = c'
  lo : ∀ c, c < 1000 → H1 c = none
def subB (σ : Nat → Nat) (B : Blk) (H1 : Hp) : Blk := fun c => if (H1 c).isSome then B (σ c) else none
def subE (E : Env) (B : Blk) (H : Hp) (w : World) (σ : Nat → Nat) (H1 : Hp) (lo : ∀ c, c < 1000 → H1 c = none) : Env := ⟨w, unst E B H, fun c => match H1 c with | some bx => some (verB bx, B (σ c)) | none => none, fun c hc => by rw [lo c hc], []⟩
theorem renB_live {σ : Nat → Nat} {bx : Bx} : liveB (renB σ bx) = liveB bx := by cases bx <;> rfl
theorem renB_from {σ : Nat → Nat} {bx : Bx} : fromB (renB σ bx) = fromB bx := by cases bx <;> rfl
theorem renB_ver {σ : Nat → Nat} {bx : Bx} : verB (renB σ bx) = verB bx := by cases bx <;> rfl
variable {σ : Nat → Nat} {H1 : Hp}
theorem subB_some (hn : Names σ H H1) {c : Nat} {bx : Bx} (h : H1 c = some bx) : subB σ B H1 c = B (σ c) := by simp [subB, h]
theorem subE_ent (hn : Names σ H H1) {b : Nat} : (subE E B H w σ H1 hn.lo).ent b ↔ ∃ c bx, H1 c = some bx ∧ B (σ c) = some b := by
  constructor
  · rintro ⟨c, k, h⟩
    simp only [subE] at h
    cases hh : H1 c with
    | none => rw [hh] at h; cases h
    | some bx =>
      rw [hh] at h
      simp only [Option.some.injEq, Prod.mk.injEq] at h
      exact ⟨c, bx, hh, h.2⟩
  · rintro ⟨c, bx, h1, h2⟩
    exact ⟨c, verB bx, by simp only [subE, h1, h2]⟩
theorem sub_unst (m : Mem E B H w) (hn : Names σ H H1) : unst (subE E B H w σ H1 hn.lo) (subB σ B H1) H1 = unst E B H := by
  funext b o
  refine propext ⟨?_, fun h => ?_⟩
  · rintro (⟨h1, h2, h3⟩ | ⟨c, h1, h2⟩)
    · exact h2
    · obtain ⟨bx, h3, h4, h5⟩ := un_live h2
      rw [subB_some hn h3] at h1
      obtain ⟨k1, k2, _⟩ := hn.is c bx h3
      exact unst_box k1 (renB_live.trans h4) h1 (by rw [renB_from]; exact h5)
  · by_cases he : (subE E B H w σ H1 hn.lo).ent b
    · obtain ⟨c, bx, h1, h2⟩ := (subE_ent hn).1 he
      obtain ⟨k1, k2, _⟩ := hn.is c bx h1
      have := m.unst_at k1 (renB_live.trans k2) h2 h
      rw [renB_from] at this
      exact unst_box h1 k2 (by rw [subB_some hn h1]; exact h2) this
    · exact .inl ⟨m.unst_lt h, h, he⟩
theorem names_cor (hn : Names σ H H1) {g : Nat} (hg : (H1 g).isSome = true) : shB (H (σ g)) = shB (H1 g) ∧ B (σ g) = subB σ B H1 g := by
  cases hh : H1 g with
  | none => rw [hh] at hg; cases hg
  | some bx => exact ⟨by rw [(hn.is g bx hh).1, shB_ren], (subB_some hn hh).symm⟩
/-- the boxes handed in, as the call sees them -/
theorem Mem.enter (m : Mem E B H w) (hn : Names σ H H1) : Mem (subE E B H w σ H1 hn.lo) (subB σ B H1) H1 w := by
  have eu := sub_unst m hn
  have ent : ∀ c bx b, H1 c = some bx → B (σ c) = some b → Mine (subE E B H w σ H1 hn.lo) b (fromB bx) := fun c bx b h1 h2 => by
    obtain ⟨k1, k2, _⟩ := hn.is c bx h1
    exact .inr ⟨m.blk_lt k1 h2, (subE_ent hn).2 ⟨c, bx, h1, h2⟩, fun o ho => unst_box k1 (renB_live.trans k2) h2 (by rw [renB_from]; exact ho)⟩
  have tie : ∀ c bx, H1 c = some bx → Tie (subE E B H w σ H1 hn.lo) c (verB bx) (B (σ c)) := fun c bx h1 k0 b0 h => by
    simp only [subE, h1, Option.some.injEq, Prod.mk.injEq] at h
    exact ⟨by omega, fun _ => h.2⟩
  refine ⟨fun c bx hc => ?_, fun c hc => by simp [subB, hc], fun c c' b h1 h2 h3 h4 => ?_, ⟨rfl, rfl, rfl, Nat.le_refl _, fun _ _ _ => rfl, Evo.refl _ _⟩, fun c hc => by simp only [subE, hc]⟩
  · obtain ⟨k1, k2, k3⟩ := hn.is c bx hc
    have hb := m.box _ _ k1
    have eB := subB_some (B := B) hn hc
    cases bx with
    | var x =>
      obtain ⟨b, cs, t, q1, q2, q3, q4, q5⟩ := hb
      refine ⟨b, cs, t, eB.trans q1, q2, ?_, ent c _ b hc q1, ?_⟩
      · rw [eu]
        exact (Rd_ren x (fun g hg => names_cor hn (k3 g hg))).1 q3
      · have := tie c _ hc
        rw [q1] at this
        exact this
    | froz x => cases k2
    | tail e n k =>
      obtain ⟨q0, q1, q2⟩ := hb
      refine ⟨q0, by rw [eB]; exact tie c _ hc, ?_⟩
      rw [eB]
      rcases q2 with q2 | ⟨b, cur, cap, p1, p2, p3, p4, p5, p6⟩
      · exact .inl q2
      · exact .inr ⟨b, cur, cap, p1, p2, p3, p4, p5, ent c _ b hc p1⟩
    | own e n xs =>
      obtain ⟨q0, q1, q2⟩ := hb
      refine ⟨q0, by rw [eB]; exact tie c _ hc, ?_⟩
      rw [eB]
      rcases q2 with q2 | ⟨b, cur, cap, cc, p1, p2, p3, p4, p5, p6, p7, p8⟩
      · exact .inl q2
      · exact .inr ⟨b, cur, cap, cc, p1, p2, p3, p4, p5, p6, by rw [eu]; exact p7, ent c _ b hc p1⟩
  · have back : ∀ c, live (H1 c) = true → ∃ bx, H1 c = some bx := fun c h => by
      cases hh : H1 c with
      | none => rw [hh] at h; cases h
      | some bx => exact ⟨bx, rfl⟩
    obtain ⟨bx, e1⟩ := back c h1
    obtain ⟨bx', e2⟩ := back c' h2
    rw [subB_some hn e1] at h3
    rw [subB_some hn e2] at h4
    obtain ⟨k1, k2, _⟩ := hn.is c bx e1
    obtain ⟨k3, k4, _⟩ := hn.is c' bx' e2
    exact hn.inj c c' (by rw [e1]; rfl) (by rw [e2]; rfl) (m.inj _ _ b (by rw [k1]; exact liveB_live (renB_live.trans k2)) (by rw [k3]; exact liveB_live (renB_live.trans k4)) h3 h4)
/-- what is handed in, as the call sees it -/
theorem Mem.enter_rd (m : Mem E B H w) (hn : Names σ H H1) {x : AV} (hx : ∀ g ∈ namesA x, (H1 g).isSome = true) {v : Value} (h : Rdv (unst E B H) w B H (renA σ x) v) : Rdv (unst (subE E B H w σ H1 hn.lo) (subB σ B H1) H1) w (subB σ B H1) H1 x v := by
  rw [sub_unst m hn]
  exact (Rdv_ren (fun g hg => names_cor hn (hx g hg))).1 h
/-! ### out of a call -/
/-- the kinds that boxes keep -/
def kindB : Bx → Bx → Prop
  | .var _, .var _ => True
  | .tail e n _, .tail e' n' _ => e' = e ∧ n' = n
  | .own e n _, .own e' n' _ => e' = e ∧ n' = n
  | _, _ => False
/-- what is known behind a call: H2 the boxes as the call leaves them, H' the caller's behind it -/
structure Outs (σ : Nat → Nat) (H H1 H2 H' : Hp) (B B2 B' : Blk) : Prop where
  names : Names σ H H1
  kind : ∀ c bx, H1 c = some bx → ∃ bx', H2 c = some bx' ∧ kindB bx bx'
  fresh : ∀ c, (H2 c).isSome = true → H1 c = none → H (σ c) = none
  inj : ∀ c c', (H2 c).isSome = true → (H2 c').isSome = true → σ c = σ c' → c = c'
  is : ∀ c bx, H2 c = some bx → H' (σ c) = some (renB σ bx) ∧ B' (σ c) = B2 c ∧ liveB bx = true ∧ ∀ g ∈ boxNames bx, (H2 g).isSome = true
  other : ∀ j, (∀ c, (H2 c).isSome = true → σ c ≠ j) → H' j = H j ∧ B' j = B j
variable {H2 H' : Hp} {B2 B' : Blk} {w' : World}
theorem kindB_live {x y : Bx} (h : kindB x y) : liveB y = true := by cases x <;> cases y <;> first | rfl | exact h.elim
section
variable (m : Mem E B H w) (o : Outs σ H H1 H2 H' B B2 B') (m2 : Mem (subE E B H w σ H1 o.names.lo) B2 H2 w')
include m o m2
/-- a box of the caller is one that was handed in, or was left alone -/
theorem outs_cases (j : Nat) : (∃ c bx, H2 c = some bx ∧ σ c = j) ∨ ((∀ c, (H2 c).isSome = true → σ c ≠ j) ∧ H' j = H j ∧ B' j = B j) := by
  by_cases h : ∃ c bx, H2 c = some bx ∧ σ c = j
  · exact .inl h
  · have : ∀ c, (H2 c).isSome = true → σ c ≠ j := fun c hc e => by
      cases hh : H2 c with
      | none => rw [hh] at hc; cases hc
      | some bx => exact h ⟨c, bx, hh, e⟩
    exact .inr ⟨this, o.other j this⟩
/-- a block handed in belongs to a box handed in -/
theorem outs_ent {b : Nat} (h : (subE E B H w σ H1 o.names.lo).ent b) : ∃ c bx, H1 c = some bx ∧ B (σ c) = some b ∧ H (σ c) = some (renB σ bx) ∧ liveB (renB σ bx) = true ∧ ∃ bx', H2 c = some bx' := by
  obtain ⟨c, bx, h1, h2⟩ := (subE_ent o.names).1 h
  obtain ⟨k1, k2, _⟩ := o.names.is c bx h1
  obtain ⟨bx', k3, _⟩ := o.kind c bx h1
  exact ⟨c, bx, h1, h2, k1, renB_live.trans k2, bx', k3⟩
theorem outs_un1 {b q : Nat} (h : unst E B' H' b q) : unst (subE E B H w σ H1 o.names.lo) B2 H2 b q := by
  rcases h with ⟨h1, h2, h3⟩ | ⟨j, h1, h2⟩
  · have hlt : b < w.heap.size := Nat.lt_of_lt_of_le h1 m.left.size
    refine .inl ⟨hlt, .inl ⟨h1, h2, h3⟩, fun he => ?_⟩
    obtain ⟨c, bx, k1, k2, k3, k4, _⟩ := outs_ent m o m2 he
    rcases m.mine k3 k4 k2 with k | k
    · omega
    · exact h3 k.2.1
  · rcases outs_cases m o m2 j with ⟨c, bx, k1, rfl⟩ | ⟨k1, k2, k3⟩
    · obtain ⟨q1, q2, q3, _⟩ := o.is c bx k1
      rw [q2] at h1
      have := unst_from q1 h2
      rw [renB_from] at this
      exact unst_box k1 q3 h1 this.2
    · rw [k3] at h1
      rw [k2] at h2
      obtain ⟨bx, q1, q2, q3⟩ := un_live h2
      refine .inl ⟨m.blk_lt q1 h1, unst_box q1 q2 h1 q3, fun he => ?_⟩
      obtain ⟨c, bx', p1, p2, p3, p4, bx2, p5⟩ := outs_ent m o m2 he
      exact k1 c (by rw [p5]; rfl) (m.inj _ _ b (by rw [p3]; exact liveB_live p4) (by rw [q1]; exact liveB_live q2) p2 h1)
theorem outs_un2 {b q : Nat} (hb : b < w.heap.size) (h : unst (subE E B H w σ H1 o.names.lo) B2 H2 b q) : unst E B H b q := by
  rcases h with ⟨h1, h2, h3⟩ | ⟨c, h1, h2⟩
  · exact h2
  · obtain ⟨bx, k1, k2, k3⟩ := un_live h2
    rcases m2.mine k1 k2 h1 with k | k
    · have : w.heap.size ≤ b := k
      omega
    · exact k.2.2 q k3
theorem outs_mine {b q : Nat} (h : Mine (subE E B H w σ H1 o.names.lo) b q) : Mine E b q := by
  rcases h with h | ⟨h1, h2, h3⟩
  · have h' : w.heap.size ≤ b := h
    exact .inl (Nat.le_trans m.left.size h')
  · obtain ⟨c, bx, k1, k2, k3, k4, _⟩ := outs_ent m o m2 h2
    have hm := m.mine k3 k4 k2
    rcases hm with hm | hm
    · exact .inl hm
    · have h4 : fromB (renB σ bx) ≤ q := m.unst_at k3 k4 k2 (h3 q (Nat.le_refl _))
      exact .inr ⟨hm.1, hm.2.1, fun o' ho' => hm.2.2 o' (by omega)⟩
theorem outs_evo : Evo (unst E B H) w w' := m2.left.evo
theorem outs_pic : Pic w w' B B' H H' := by
  have evo := outs_evo m o m2
  have same : ∀ c bx, H2 c = some bx → ∀ bx0, H (σ c) = some bx0 → ∃ bx1, H1 c = some bx1 ∧ bx0 = renB σ bx1 ∧ kindB bx1 bx := fun c bx h1 bx0 h2 => by
    cases hh : H1 c with
    | none => rw [o.fresh c (by rw [h1]; rfl) hh] at h2; cases h2
    | some bx1 =>
      obtain ⟨k1, _⟩ := o.names.is c bx1 hh
      rw [h2] at k1; injection k1 with k1
      obtain ⟨bx', k2, k3⟩ := o.kind c bx1 hh
      rw [h1] at k2; injection k2 with k2; subst k2
      exact ⟨bx1, rfl, k1, k3⟩
  have tie : ∀ c bx, H2 c = some bx → ∀ bx1, H1 c = some bx1 → verB bx1 ≤ verB bx ∧ (verB bx = verB bx1 → B2 c = B (σ c)) := fun c bx h1 bx1 h2 => by
    obtain ⟨_, _, k, _⟩ := o.is c bx h1
    exact m2.tie h1 k (verB bx1) (B (σ c)) (by simp only [subE, h2])
  refine ⟨fun j b h1 h2 => ?_, fun j h => ?_, fun t n len A cap h => ?_, fun g n len k v h => ?_⟩
  · rcases outs_cases m o m2 j with ⟨c, bx, k1, rfl⟩ | ⟨_, k2, k3⟩
    · cases hj : H (σ c) with
      | none => rw [hj] at h1; cases h1
      | some bx0 =>
        obtain ⟨bx1, p1, p2, p3⟩ := same c bx k1 bx0 hj
        obtain ⟨q1, q2, _⟩ := o.is c bx k1
        rw [q2]
        subst p2
        rw [hj] at h1
        cases bx1 with
        | var x =>
          cases bx with
          | var y => rw [(tie c _ k1 _ p1).2 rfl]; exact h2
          | _ => exact p3.elim
        | froz x => exact p3.elim
        | tail e n k => cases h1
        | own e n xs => cases h1
    · rw [k3]; exact h2
  · rcases outs_cases m o m2 j with ⟨c, bx, k1, rfl⟩ | ⟨_, k2, k3⟩
    · cases hj : H (σ c) with
      | none => rw [hj] at h; cases h
      | some bx0 =>
        obtain ⟨bx1, p1, p2, p3⟩ := same c bx k1 bx0 hj
        obtain ⟨q1, q2, _⟩ := o.is c bx k1
        rw [q1]
        subst p2
        rw [hj] at h
        cases bx1 with
        | var x => cases bx <;> first | rfl | exact p3.elim
        | froz x => exact p3.elim
        | tail e n k => cases h
        | own e n xs => cases h
    · rw [k2]; exact h
  · obtain ⟨e, k, h1, h2, h3⟩ := h
    rcases outs_cases m o m2 t with ⟨c, bx, k1, rfl⟩ | ⟨_, k2, k3⟩
    · obtain ⟨bx1, p1, p2, p3⟩ := same c bx k1 _ h1
      obtain ⟨q1, q2, _⟩ := o.is c bx k1
      cases bx1 with
      | tail e1 n1 k1' =>
        simp only [renB, Bx.tail.injEq] at p2
        obtain ⟨rfl, rfl, rfl⟩ := p2
        cases bx with
        | tail e2 n2 k2 =>
          obtain ⟨rfl, rfl⟩ := p3
          obtain ⟨t1, t2⟩ := tie c _ k1 _ p1
          simp only [verB] at t1 t2
          refine ⟨e2, k2, q1, by omega, fun hk => ?_⟩
          have hk1 : k2 = k := by omega
          rw [q2, t2 hk1]
          obtain ⟨r1, r2⟩ := h3 (by omega)
          refine ⟨r1, fun b hb => ?_⟩
          obtain ⟨s1, cur, s2, s3⟩ := r2 b hb
          obtain ⟨cs', u1, u2, _⟩ := evo.cell b cur e2 (0, 0) s2
          exact ⟨s1, cs', u1, u2.trans s3⟩
        | _ => exact p3.elim
      | var x => simp [renB] at p2
      | froz x => simp [renB] at p2
      | own e' n' xs => simp [renB] at p2
    · refine ⟨e, k, by rw [k2]; exact h1, h2, fun hk => ?_⟩
      rw [k3]
      obtain ⟨r1, r2⟩ := h3 hk
      refine ⟨r1, fun b hb => ?_⟩
      obtain ⟨s1, cur, s2, s3⟩ := r2 b hb
      obtain ⟨cs', u1, u2, _⟩ := evo.cell b cur e (0, 0) s2
      exact ⟨s1, cs', u1, u2.trans s3⟩
  · obtain ⟨e, xs, h1, h2, h3, h4⟩ := h
    have go : (B' g = B g) → (∃ xs', H' g = some (.own e n xs') ∧ xs.length ≤ xs'.length) → (∀ xs', H' g = some (.own e n xs') → xs'.length = xs.length → B' g = B g) → True := fun _ _ _ => trivial
    rcases outs_cases m o m2 g with ⟨c, bx, k1, rfl⟩ | ⟨_, k2, k3⟩
    · obtain ⟨bx1, p1, p2, p3⟩ := same c bx k1 _ h1
      obtain ⟨q1, q2, _⟩ := o.is c bx k1
      cases bx1 with
      | own e1 n1 xs1 =>
        simp only [renB, Bx.own.injEq] at p2
        obtain ⟨rfl, rfl, rfl⟩ := p2
        cases bx with
        | own e2 n2 xs2 =>
          obtain ⟨rfl, rfl⟩ := p3
          obtain ⟨t1, t2⟩ := tie c _ k1 _ p1
          simp only [verB] at t1 t2
          refine ⟨e2, xs2, q1, by omega, h3, fun hk => ?_⟩
          have hk1 : xs2.length = xs.length := by omega
          rw [q2, t2 hk1]
          obtain ⟨r1, r2⟩ := h4 (by omega)
          refine ⟨r1, fun b hb => ?_⟩
          obtain ⟨cur, s2, s3⟩ := r2 b hb
          obtain ⟨cs', u1, u2, _⟩ := evo.cell b cur e2 (0, 0) s2
          refine ⟨cs', u1, ?_⟩
          cases k with
          | row => obtain ⟨cp, v1, v2, v3, v4⟩ := s3; exact ⟨cp, v1, v2, v3, u2.trans v4⟩
          | _ => exact s3
        | _ => exact p3.elim
      | var x => simp [renB] at p2
      | froz x => simp [renB] at p2
      | tail e' n' k' => simp [renB] at p2
    · exact OwnOk.go evo k2 k3 ⟨e, xs, h1, h2, h3, h4⟩
/-- what the caller held reads as it read -/
theorem outs_rd1 {x : AV} {v : Value} (h : Rdv (unst E B H) w B H x v) : Rdv (unst E B' H') w' B' H' x v :=
  Rdv_go (outs_evo m o m2) (fun b q hb hu => outs_un2 m o m2 hb (outs_un1 m o m2 hu)) (outs_pic m o m2) h
/-- what the call leaves, as the caller sees it -/
theorem outs_cor {g : Nat} (hg : (H2 g).isSome = true) : shB (H' (σ g)) = shB (H2 g) ∧ B' (σ g) = B2 g := by
  cases hh : H2 g with
  | none => rw [hh] at hg; cases hg
  | some bx =>
    obtain ⟨k1, k2, _⟩ := o.is g bx hh
    exact ⟨by rw [k1, shB_ren], k2⟩
theorem outs_rd2 {x : AV} (hx : ∀ g ∈ namesA x, (H2 g).isSome = true) {v : Value} (h : Rdv (unst (subE E B H w σ H1 o.names.lo) B2 H2) w' B2 H2 x v) : Rdv (unst E B' H') w' B' H' (renA σ x) v :=
  (Rdv_ren (fun g hg => outs_cor m o m2 (hx g hg))).2 (Rdv_go (Evo.refl _ w') (fun b q _ hu => outs_un1 m o m2 hu) ⟨fun _ _ _ h => h, fun _ h => h, fun _ _ _ _ _ h => h, fun _ _ _ _ _ h => h⟩ h)
theorem outs_rdc {x : AV} (hx : ∀ g ∈ namesA x, (H2 g).isSome = true) {c : List Value} (h : Rd (unst (subE E B H w σ H1 o.names.lo) B2 H2) w' x B2 H2 c) : Rd (unst E B' H') w' (renA σ x) B' H' c :=
  (Rd_ren x (fun g hg => outs_cor m o m2 (hx g hg))).2 (Rd_go (Evo.refl _ w') (fun b q _ hu => outs_un1 m o m2 hu) x ⟨fun _ _ _ h => h, fun _ h => h, fun _ _ _ _ _ h => h, fun _ _ _ _ _ h => h⟩ h)
theorem outs_left : Left E w' := by
  have l2 := m2.left
  refine ⟨l2.os.trans m.left.os, l2.tape.trans m.left.tape, l2.output.trans m.left.output, Nat.le_trans m.left.size l2.size, fun k hk he => ?_, ⟨Nat.le_trans m.left.size l2.size, fun b cs t fr hb => ?_⟩⟩
  · have hk' : k < w.heap.size := Nat.lt_of_lt_of_le hk m.left.size
    refine (l2.block k hk' (fun h => ?_)).trans (m.left.block k hk he)
    obtain ⟨c, bx, k1, k2, k3, k4, _⟩ := outs_ent m o m2 h
    rcases m.mine k3 k4 k2 with q | q
    · omega
    · exact he q.2.1
  · obtain ⟨c1, h1, h2, h3⟩ := m.left.evo.cell b cs t fr hb
    obtain ⟨c2, k1, k2, k3⟩ := (outs_evo m o m2).cell b c1 t fr h1
    refine ⟨c2, k1, k2.trans h2, fun q hq => (k3 q (fun hu => ?_)).trans (h3 q hq)⟩
    have hlt := heap_lt hb
    rcases hu with ⟨_, u, _⟩ | ⟨j, u1, u2⟩
    · exact hq u
    · obtain ⟨bx, v1, v2, v3⟩ := un_live u2
      rcases m.mine v1 v2 u1 with r | r
      · omega
      · exact hq (r.2.2 q v3)
/-- **out of a call: the caller's boxes behind it** -/
theorem Mem.leave : Mem E B' H' w' := by
  have evo := outs_evo m o m2
  have hU : ∀ b q, b < w.heap.size → unst E B' H' b q → unst E B H b q := fun b q hb hu => outs_un2 m o m2 hb (outs_un1 m o m2 hu)
  have pic := outs_pic m o m2
  have keepB : ∀ j b, (∀ c, (H2 c).isSome = true → σ c ≠ j) → live (H j) = true → B j = some b → b < w.heap.size ∧ ¬ (subE E B H w σ H1 o.names.lo).ent b := fun j b h1 h2 h3 => by
    cases hh : H j with
    | none => rw [hh] at h2; cases h2
    | some bx =>
      refine ⟨m.blk_lt hh h3, fun he => ?_⟩
      obtain ⟨c, bx', p1, p2, p3, p4, bx2, p5⟩ := outs_ent m o m2 he
      exact h1 c (by rw [p5]; rfl) (m.inj _ _ b (by rw [p3]; exact liveB_live p4) h2 p2 h3)
  have lv2 : ∀ c bx, H2 c = some bx → live (H2 c) = true := fun c bx h => by
    obtain ⟨_, _, k, _⟩ := o.is c bx h
    rw [h]; exact liveB_live k
  have tie : ∀ c bx, H2 c = some bx → Tie E (σ c) (verB bx) (B2 c) := fun c bx h => by
    cases hh : H1 c with
    | none => exact Tie.none (m.keep _ (o.fresh c (by rw [h]; rfl) hh))
    | some bx1 =>
      obtain ⟨k1, k2, _⟩ := o.names.is c bx1 hh
      have t1 := m.tie k1 (renB_live.trans k2)
      rw [renB_ver] at t1
      obtain ⟨_, _, k, _⟩ := o.is c bx h
      obtain ⟨t2, t3⟩ := m2.tie h k (verB bx1) (B (σ c)) (by simp only [subE, hh])
      intro k0 b0 e
      obtain ⟨u1, u2⟩ := t1 k0 b0 e
      exact ⟨by omega, fun e' => (t3 (by omega)).trans (u2 (by omega))⟩
  refine ⟨fun j bx hj => ?_, fun j hj => ?_, fun j j' b h1 h2 h3 h4 => ?_, outs_left m o m2, fun j hj => ?_⟩
  · rcases outs_cases m o m2 j with ⟨c, bx2, k1, rfl⟩ | ⟨k1, k2, k3⟩
    · obtain ⟨q1, q2, q3, q4⟩ := o.is c bx2 k1
      rw [q1] at hj; injection hj with hj; subst hj
      have hb := m2.box c bx2 k1
      have ht := tie c bx2 k1
      cases bx2 with
      | var x =>
        obtain ⟨b, cs, t, p1, p2, p3, p4, p5⟩ := hb
        rw [p1] at ht
        exact ⟨b, cs, t, q2.trans p1, p2, outs_rdc m o m2 q4 p3, outs_mine m o m2 p4, ht⟩
      | froz x => cases q3
      | tail e n k =>
        obtain ⟨p0, p1, p2⟩ := hb
        refine ⟨p0, by rw [q2]; exact ht, ?_⟩
        rw [q2]
        rcases p2 with p2 | ⟨b, cur, cap, p3, p4, p5, p6, p7, p8⟩
        · exact .inl p2
        · exact .inr ⟨b, cur, cap, p3, p4, p5, p6, p7, outs_mine m o m2 p8⟩
      | own e n xs =>
        obtain ⟨p0, p1, p2⟩ := hb
        refine ⟨p0, by rw [q2]; exact ht, ?_⟩
        rw [q2]
        rcases p2 with p2 | ⟨b, cur, cap, cc, p3, p4, p5, p6, p7, p8, p9, p10⟩
        · exact .inl p2
        · exact .inr ⟨b, cur, cap, cc, p3, p4, p5, p6, p7, p8, Rdu_go (Evo.refl _ w') (fun b q _ hu => outs_un1 m o m2 hu) n xs (Pic.refl0 _ _) p9, outs_mine m o m2 p10⟩
    · have hj0 : H j = some bx := k2.symm.trans hj
      have hb := m.box j bx hj0
      have blk : ∀ b, live (some bx) = true → B j = some b → w'.heap[b]? = w.heap[b]? := fun b hl hb => by
        obtain ⟨q1, q2⟩ := keepB j b k1 (by rw [hj0]; exact hl) hb
        exact m2.left.block b q1 q2
      cases bx with
      | var x =>
        obtain ⟨b, cs, t, p1, p2, p3, p4⟩ := hb
        exact ⟨b, cs, t, k3.trans p1, (blk b rfl p1).trans p2, Rd_go evo hU x pic p3, p4⟩
      | froz x =>
        obtain ⟨b, cs, p1, p2, p3, p4⟩ := hb
        exact ⟨b, cs, k3.trans p1, evo.row p2 p3, quiet_sub hU p2 p3, Rd_go evo hU x pic p4⟩
      | tail e n k =>
        obtain ⟨p0, p1, p2⟩ := hb
        refine ⟨p0, by rw [k3]; exact p1, ?_⟩
        rcases p2 with ⟨p2, p3⟩ | ⟨b, cur, cap, p3, p4, p5⟩
        · exact .inl ⟨k3.trans p2, p3⟩
        · exact .inr ⟨b, cur, cap, k3.trans p3, (blk b rfl p3).trans p4, p5⟩
      | own e n xs =>
        obtain ⟨p0, p1, p2⟩ := hb
        refine ⟨p0, by rw [k3]; exact p1, ?_⟩
        rcases p2 with ⟨p2, p3⟩ | ⟨b, cur, cap, cc, p3, p4, p5, p6, p7, p8, p9, p10⟩
        · exact .inl ⟨k3.trans p2, p3⟩
        · exact .inr ⟨b, cur, cap, cc, k3.trans p3, (blk b rfl p3).trans p4, p5, p6, p7, p8, Rdu_go evo hU n xs (Pic.refl0 _ _) p9, p10⟩
  · rcases outs_cases m o m2 j with ⟨c, bx, k1, rfl⟩ | ⟨k1, k2, k3⟩
    · rw [(o.is c bx k1).1] at hj; cases hj
    · rw [k3]; exact m.non j (k2.symm.trans hj)
  · rcases outs_cases m o m2 j with ⟨c, bx, k1, rfl⟩ | ⟨k1, k2, k3⟩
    · obtain ⟨q1, q2, q3, _⟩ := o.is c bx k1
      rw [q2] at h3
      rcases outs_cases m o m2 j' with ⟨c', bx', p1, rfl⟩ | ⟨p1, p2, p3⟩
      · obtain ⟨r1, r2, r3, _⟩ := o.is c' bx' p1
        rw [r2] at h4
        rw [m2.inj c c' b (lv2 c bx k1) (lv2 c' bx' p1) h3 h4]
      · rw [p3] at h4
        rw [p2] at h2
        obtain ⟨u1, u2⟩ := keepB j' b p1 h2 h4
        rcases m2.mine k1 q3 h3 with k | k
        · have : w.heap.size ≤ b := k
          omega
        · exact absurd k.2.1 u2
    · rw [k3] at h3
      rw [k2] at h1
      obtain ⟨u1, u2⟩ := keepB j b k1 h1 h3
      rcases outs_cases m o m2 j' with ⟨c', bx', p1, rfl⟩ | ⟨p1, p2, p3⟩
      · obtain ⟨r1, r2, r3, _⟩ := o.is c' bx' p1
        rw [r2] at h4
        rcases m2.mine p1 r3 h4 with k | k
        · have : w.heap.size ≤ b := k
          omega
        · exact absurd k.2.1 u2
      · rw [p3] at h4
        rw [p2] at h2
        exact m.inj j j' b h1 h2 h3 h4
  · rcases outs_cases m o m2 j with ⟨c, bx, k1, rfl⟩ | ⟨k1, k2, k3⟩
    · rw [(o.is c bx k1).1] at hj; cases hj
    · exact m.keep j (k2.symm.trans hj)
end
end
end Go.Proofs.Ytphojngdgmnpaaa

namespace Go.Proofs.Ytphojngdgmnpaaa
open Go Go.RowKit
set_option linter.unusedVariables false
set_option linter.unusedSimpArgs false
set_option maxRecDepth 100000
set_option linter.unusedSectionVars false

section
variable {F : Fence} {n : Nat} {P : Program}
theorem wide_fn (hF : F.plain = Fence.wide) (f : FuncId) : F.fn f := by
  have : F.plain.fn f := by rw [hF]; trivial
  exact this
theorem wide_depth (hF : F.plain = Fence.wide) : F.depth = none := by
  have : F.plain.depth = none := by rw [hF]; rfl
  exact this
theorem calls_in (hF : F.plain = Fence.wide) {f : FuncId} {args : Array Value} {w : World} {R : Ending → World → Prop} (h : Calls P f args w R) : CallsIn F n P f args w R := by
  have : CallsIn F.plain n P f args w R := by rw [hF]; exact callsIn_wide.2 h
  exact this
theorem rows_in (hF : F.plain = Fence.wide) {row : String} {args : Array Value} {w : World} {R : Value → World → Prop} (h : Rows P row args w R) : RowsIn F n P row args w R := by
  have : RowsIn F.plain n P row args w R := by
    rw [hF]
    intro c cs _
    obtain ⟨v, w', h1, h2⟩ := h c cs
    exact ⟨v, w', h1, stepsIn_wide.2 h2⟩
  exact this
def noDefer (o : Oper) : Bool := match o.op with
  | .defer _ => false
  | _ => true
theorem op_in (hF : F.plain = Fence.wide) {o : Oper} (hd : noDefer o = true) {a : Act} {w : World} {K : Act → World → Prop} {Q : Exit → Act → World → Prop} (h : o.wp P a w K Q) : o.wpIn F n P a w K Q := by
  refine ⟨fun f _ => wide_fn hF f, ?_⟩
  have hs : o.semAt F.round a.eval = execOp a.eval o := Oper.semAt_eq _ _ _ (fun c hc => by unfold noDefer at hd; rw [hc] at hd; cases hd)
  rw [hs]
  unfold Oper.wp at h
  have hn : F.depth.isSome = true → 1 ≤ n := fun h => by rw [wide_depth hF] at h; cases h
  generalize (execOp a.eval o).run P w = r at h ⊢
  cases r with
  | ok x w' =>
    cases x with
    | value v => exact h
    | skip => exact h
    | defer d => exact h
    | enter f args => exact ⟨hn, calls_in hF h⟩
    | row row args => exact ⟨hn, rows_in hF h⟩
    | _ => exact h.elim
  | halt x w' => cases x <;> exact h
/-- a region in the text's order, inside the fence -/
theorem ops_in {E : Env} {nt : Nat} {ops : Array Oper} {Q : Exit → Act → World → Prop} {K : St → List Rec → Prop} (hF : F.plain = Fence.wide) (hd : ops.toList.all noDefer = true)
    (hK : ∀ S rs, K S rs → ∀ B a w, Rel E nt B S.t S.h a w → Q .normal a w) :
    ∀ (l : List Oper) (i : Nat) (S : St) (rs : List Rec) (B : Blk) (a : Act) (w : World), ops.toList.drop i = l → AWops P E nt ops l S rs K → Rel E nt B S.t S.h a w → wpOpsIn F n P ops Q (List.range' i l.length) a w
  | [], i, S, rs, B, a, w, _, h, r => hK S rs h B a w r
  | o :: l, i, S, rs, B, a, w, hl, h, r => by
    have hi : i < ops.size := by
      rcases Nat.lt_or_ge i ops.size with h | h
      · exact h
      · rw [List.drop_eq_nil_of_le (by simpa using h)] at hl; cases hl
    rw [List.drop_eq_getElem_cons (by simpa using hi)] at hl
    injection hl with h1 h2
    have ho : ops[i]? = some o := by rw [← h1]; simp
    have hm : noDefer o = true := List.all_eq_true.1 hd o (by rw [← h1]; exact List.getElem_mem _)
    rw [List.length_cons, List.range'_succ]
    simp only [wpOpsIn, ho]
    obtain ⟨S1, ⟨es1, es2⟩, h⟩ := h
    rw [← es1, ← es2] at r
    have e1 := St.app_t S1 o.dst
    have e2 := St.app_h S1 o.dst
    rcases h with ⟨hw, rh, e, hok, hrest⟩ | ⟨hw, hdd, hrest⟩
    · rw [if_pos (wanted_of r hw)]
      refine op_in hF hm (hok S1.t S1.h (fun _ _ => rfl) (fun _ _ => rfl) (fun _ _ => rfl) B a w r _ _ fun B' a' w' r' => ?_)
      rw [← e1, ← e2] at r'
      exact ops_in hF hd hK l (i + 1) _ _ B' a' w' h2 hrest r'
    · rw [if_neg (by rw [wanted_of r hw]; simp)]
      have r' := r.undef hdd
      have e1' := e1 ⟨.tup [], []⟩
      have e2' := e2 ⟨.tup [], []⟩
      simp only [updH] at e2'
      rw [← e1', ← e2'] at r'
      exact ⟨fun f _ => wide_fn hF f, ops_in hF hd hK l (i + 1) _ _ B _ w h2 hrest r'⟩
end
/-- the walk of a code inside the fence -/
def AWR (F : Fence) (n : Nat) (P : Program) (E : Env) (nt : Nat) (c : Code) (S : St) (Q : Exit → St → Prop) : Prop :=
  ∀ B a w, Rel E nt B S.t S.h a w → c.wpIn F n P (fun e a' w' => ∃ B' S', Rel E nt B' S'.t S'.h a' w' ∧ Q e S') a w
section
variable {F : Fence} {n : Nat} {P : Program} {E : Env} {nt : Nat} {S : St} {Q : Exit → St → Prop}
theorem AWR_skip (h : Q .normal S) : AWR F n P E nt .skip S Q := fun B a w r => wpIn_skip ⟨B, S, r, h⟩
theorem AWR_seq {x y : Code} (h : AWR F n P E nt x S (thenA (fun S' => AWR F n P E nt y S' Q) Q)) : AWR F n P E nt (.seq x y) S Q := fun B a w r =>
  wpIn_seq (wpIn_mono (h B a w r) fun e a w ⟨B', S', h1, h2⟩ => by
    cases e with
    | normal => exact h2 B' a w h1
    | outgrown => exact h2.elim
    | exit id => exact ⟨B', S', h1, h2⟩
    | goto l => exact ⟨B', S', h1, h2⟩
    | ret => exact ⟨B', S', h1, h2⟩
    | panic c => exact ⟨B', S', h1, h2⟩)
theorem AWR_region {id : Nat} {ops : Array Oper} (hF : F.plain = Fence.wide) (hd : ops.toList.all noDefer = true) (h : AWops P E nt ops ops.toList S [] (fun S' _ => Q .normal S')) : AWR F n P E nt (.region id ops false) S Q := fun B a w r => by
  refine wpIn_region ?_
  have := ops_in (n := n) (Q := fun e a' w' => ∃ B' S', Rel E nt B' S'.t S'.h a' w' ∧ Q e S') hF hd (fun S rs hK B a w r => ⟨B, S, r, hK⟩) ops.toList 0 S [] B a w rfl h r
  rw [List.range_eq_range']
  simpa using this
theorem AWR_wide {c : Code} (h : AW P E nt c S Q) : AWR Fence.wide n P E nt c S Q := fun B a w r => wpIn_wide.2 (h B a w r)
theorem AWR_unwide {c : Code} (h : AWR Fence.wide n P E nt c S Q) : AW P E nt c S Q := fun B a w r => wpIn_wide.1 (h B a w r)
end
end Go.Proofs.Ytphojngdgmnpaaa

namespace Go.Proofs.Ytphojngdgmnpaaa
open Go Go.RowKit
set_option linter.unusedVariables false
set_option linter.unusedSimpArgs false
set_option maxRecDepth 100000

def cmpA : BinOp → Int → Int → Option Bool
  | .lss, a, b => some (decide (a < b))
  | .leq, a, b => some (decide (a ≤ b))
  | .gtr, a, b => some (decide (b < a))
  | .geq, a, b => some (decide (b ≤ a))
  | .eql, a, b => some (decide (a = b))
  | .neq, a, b => some (decide (a ≠ b))
  | _, _, _ => none
def cmpB : BinOp → Bool → Bool → Option Bool
  | .eql, a, b => some (decide (a = b))
  | .neq, a, b => some (decide (a ≠ b))
  | _, _, _ => none
def saB (t : TypeId) (y : AV) : Bool := match tabT.sa t with
  | some (g, n) => g == isAggA y && Nat.beq n (sizeA y)
  | none => false
theorem saB_eq {t : TypeId} {y : AV} (h : saB t y = true) : tabT.sa t = some (isAggA y, sizeA y) := by
  unfold saB at h
  split at h
  · rename_i g n e
    rw [Bool.and_eq_true, beq_iff_eq] at h
    rw [e, h.1, Nat.eq_of_beq_eq_true h.2]
  · cases h
def binA (T : Nat → Option AV) (b : BinOp) (t : TypeId) (x y : Operand) : Option AV := match evalO T x, evalO T y with
  | some (.v (.int k p)), some (.v (.int k' q)) => if k = k' then (match cmpA b p q with
    | some c => some (.v (.bool c))
    | none => none) else none
  | some (.v (.bool p)), some (.v (.bool q)) => bif Nat.beq t 4 then (match cmpB b p q with
    | some c => some (.v (.bool c))
    | none => none) else none
  | _, _ => none
def loadA (T : Nat → Option AV) (H : Hp) (t : TypeId) (x : Operand) : Option (AV × List Nat) := match evalO T x with
  | some (.ref y) => bif saB t y then some (y, []) else none
  | some (.ptr g off p) => match H g with
    | some bx => match boxAV bx with
      | some y => match subA p y with
        | some z => bif Nat.beq (offA p y) off && saB t z then some (z, [g]) else none
        | none => none
      | none => none
    | none => none
  | _ => none
def fieldA (T : Nat → Option AV) (s : TypeId) (x : Operand) (f : Nat) : Option AV := match evalO T x, tabT.ti s with
  | some (.ref y), some (.st n fs) => match fldA fs y f with
    | some (o, z) => some (.ref z)
    | none => none
  | some (.ptr g off p), some (.st n fs) => match fs[f]? with
    | some (o, sz + 1, ag) => some (.ptr g (off + o) (p ++ [f]))
    | _ => none
  | _, _ => none
def stepA (T : Nat → Option AV) (H : Hp) : Op → Option (AV × List Nat)
  | .move x => match evalO T x with
    | some v => some (v, [])
    | none => none
  | .assign x => match evalO T x with
    | some v => some (v, [])
    | none => none
  | .pick c x y => match evalO T c with
    | some (.v (.bool true)) => match evalO T x with
      | some v => some (v, [])
      | none => none
    | some (.v (.bool false)) => match evalO T y with
      | some v => some (v, [])
      | none => none
    | _ => none
  | .extract x i => match evalO T x with
    | some (.tup vs) => match vs[i]? with
      | some v => some (v, [])
      | none => none
    | _ => none
  | .binOp b t x y t' => match binA T b t x y with
    | some v => some (v, [])
    | none => none
  | .unOp .not t x => match evalO T x with
    | some (.v (.bool p)) => some (.v (.bool (!p)), [])
    | _ => none
  | .load t x => loadA T H t x
  | .fieldAddr s x f => match fieldA T s x f with
    | some v => some (v, [])
    | none => none
  | _ => none
section
variable {E : Env} {nt : Nat} {ops : Array Oper} {T : Nat → Option AV} {H : Hp} {d : Option Nat} {ty : TypeId} {pos : String} {af : Array Edge} {gd : Option (Nat × Bool)}
set_option maxRecDepth 100000 in
theorem step_ok {op : Op} {v : AV} {rh : List Nat} (h : stepA T H op = some (v, rh)) (hd : dOk nt d = true) : OpOK Try.prog E nt ops ⟨d, op, ty, pos, af, gd⟩ T H rh ⟨v, []⟩ := by
  unfold stepA at h
  split at h
  · split at h <;> (try cases h)
    rename_i x v hx
    exact ok_move hd hx
  · split at h <;> (try cases h)
    rename_i x v hx
    exact ok_assign hd hx
  · split at h
    · rename_i c x y hc
      split at h <;> (try cases h)
      rename_i v hx
      exact ok_pick_t hd hc hx
    · rename_i c x y hc
      split at h <;> (try cases h)
      rename_i v hx
      exact ok_pick_f hd hc hx
    · cases h
  · split at h
    · rename_i x i vs hx
      split at h <;> (try cases h)
      rename_i v hv
      exact ok_extract hd hx hv
    · cases h
  · split at h <;> (try cases h)
    rename_i b t x y t' v hb
    unfold binA at hb
    split at hb
    · rename_i k p k' q hx hy
      split at hb
      · rename_i hk
        subst hk
        split at hb
        · rename_i c hc
          injection hb with hb; subst hb
          cases b <;> simp only [cmpA, Option.some.injEq, reduceCtorEq] at hc <;> subst hc
          · exact ok_eql hd hx hy
          · exact ok_neq hd hx hy
          · exact ok_lss hd hx hy
          · exact ok_leq hd hx hy
          · exact ok_gtr hd hx hy
          · exact ok_geq hd hx hy
        · cases hb
      · cases hb
    · rename_i p q hx hy
      cases ht : Nat.beq t 4 with
      | false => rw [ht] at hb; cases hb
      | true =>
        rw [ht] at hb
        simp only [cond_true] at hb
        have := Nat.eq_of_beq_eq_true ht
        subst this
        split at hb
        · rename_i c hc
          injection hb with hb; subst hb
          cases b <;> simp only [cmpB, Option.some.injEq, reduceCtorEq] at hc <;> subst hc
          · exact ok_eql_b Try.underlying4 hd hx hy
          · exact ok_neq_b Try.underlying4 hd hx hy
        · cases hb
    · cases hb
  · split at h
    · rename_i t x p hx
      cases h
      exact ok_not hd hx
    · cases h
  · rename_i t x
    unfold loadA at h
    split at h
    · rename_i y hx
      cases hs : saB t y with
      | false => rw [hs] at h; cases h
      | true =>
        rw [hs] at h
        cases h
        exact ok_load_ref tabT hd hx (saB_eq hs)
    · rename_i g off p hx
      split at h
      · rename_i bx hg
        split at h
        · rename_i y hb
          split at h
          · rename_i z hp
            cases hs : (Nat.beq (offA p y) off && saB t z) with
            | false => rw [hs] at h; cases h
            | true =>
              rw [hs] at h
              cases h
              rw [Bool.and_eq_true] at hs
              exact ok_load_ptr tabT hd hx hg hb hp (Nat.eq_of_beq_eq_true hs.1) (saB_eq hs.2)
          · cases h
        · cases h
      · cases h
    · cases h
  · split at h <;> (try cases h)
    rename_i s x f v hf
    unfold fieldA at hf
    split at hf
    · rename_i y n fs hx hs
      split at hf
      · rename_i o z hz
        injection hf with hf; subst hf
        exact ok_fld_ref tabT hd hx hs hz
      · cases hf
    · rename_i g off p n fs hx hs
      split at hf
      · rename_i o sz ag hz
        injection hf with hf; subst hf
        exact ok_fld_ptr tabT hd hx hs hz
      · cases hf
    · cases hf
  · cases h
end
section
variable {E : Env} {nt : Nat} {ops : Array Oper} {T : Nat → Option AV} {H : Hp} {d : Option Nat} {ty : TypeId} {pos : String} {af : Array Edge} {gd : Option (Nat × Bool)}
theorem o_sub1 {t t' : TypeId} {x y : Operand} {a : Nat} (hd : dOk nt d = true) (hx : evalO T x = some (.v (.int .i64 ((a + 1 : Nat) : Int)))) (hy : evalO T y = some (.v (.int .i64 1))) (h : a ≤ 9223372036854775807) : OpOK Try.prog E nt ops ⟨d, .binOp .sub t x y t', ty, pos, af, gd⟩ T H [] ⟨.v (.int .i64 (a : Nat)), []⟩ := by
  have := o_sub (E := E) (ops := ops) (H := H) (ty := ty) (pos := pos) (af := af) (gd := gd) (t := t) (t' := t') hd hx hy (by omega)
  rwa [show ((a + 1 : Nat) : Int) - 1 = (a : Nat) from by omega] at this
end
section
variable {E : Env} {nt : Nat} {ops : Array Oper} {T : Nat → Option AV} {H : Hp} {d : Option Nat} {ty : TypeId} {pos : String} {af : Array Edge} {gd : Option (Nat × Bool)}
/-- an element of a row told one by one -/
theorem o_idxr {x ix : Operand} {t e : TypeId} {es bytes : Nat} {ea : Bool} {tok : Option Nat} {xs : List AV} {k : IntKind} {n : Int} {i : Nat} {y : AV} (hd : dOk nt d = true) (hs : tabT.ti t = some (.sl e es bytes ea)) (hx : evalO T x = some (.sl tok es xs)) (hi : evalO T ix = some (.v (.int k n))) (hn : natOf n = some i) (hy : xs[i]? = some y) :
    OpOK Try.prog E nt ops ⟨d, .indexAddr t x ix, ty, pos, af, gd⟩ T H [] ⟨.ref y, []⟩ := by
  have := natOf_eq hn; subst this
  exact ok_idx_sl tabT hd hs hx hi (Int.natCast_nonneg i) (by simpa using hy)
end
/-- a contract with what a call of it wants -/
def ACall (f : FuncId) (args : List AV) (r : AV) : Prop := ∃ fn, Try.prog.funcs[f]? = some fn ∧ fn.body.isSome = true ∧ (fn.name == "runtime.NumGoroutine") = false ∧ AFn Try.prog f args r
theorem acall {f : FuncId} {fn : Func} {args : List AV} {r : AV} (hf : Try.prog.funcs[f]? = some fn) (hc : AFn Try.prog f args r) (hb : fn.body.isSome = true) (hn : (fn.name == "runtime.NumGoroutine") = false) : ACall f args r := ⟨fn, hf, hb, hn, hc⟩
section
variable {E : Env} {nt : Nat} {ops : Array Oper} {T : Nat → Option AV} {H : Hp} {d : Option Nat} {ty : TypeId} {pos : String} {af : Array Edge} {gd : Option (Nat × Bool)}
theorem o_acall {f : FuncId} {l : List Operand} {ats : Array TypeId} {xs ys : List AV} {y : AV} (hd : dOk nt d = true) (hx : argsA T l = some xs) (hw : weakA xs = some ys) (hnt : xs.all notTup = true) (hc : ACall f ys y) : OpOK Try.prog E nt ops ⟨d, .call { callee := .value (.func f), args := l.toArray, argTypes := ats }, ty, pos, af, gd⟩ T H [] ⟨y, []⟩ := by
  obtain ⟨fn, h1, h2, h3, h4⟩ := hc
  exact o_call h1 h4 h2 h3 hd hx (fun _ => weakA_wkl _ _ hw) hnt
end
section
variable {P : Program} {E : Env} {nt : Nat} {ops : Array Oper} {l : List Oper} {T : List (Nat × AV)} {H : List (Nat × Bx)} {rs : List Rec} {K : St → List Rec → Prop} {op : Op} {ty : TypeId} {pos : String} {af : Array Edge} {d : Option Nat}
theorem want_t {T : Nat → Option AV} {j : Nat} {b : Bool} {xs : List AV} (h : ((ops[j]?).bind (·.dst)).bind T = some (.tup xs)) : wantedA ops ⟨d, op, ty, pos, af, some (j, b)⟩ T = some false := by
  unfold wantedA; simp [h]
/-- a guard's slot, where a fact at hand tells it -/
theorem Wgt {j s : Nat} {b : Bool} {p : Prop} [Decidable p] (hj : ((ops[j]?).bind (·.dst)) = some s) (hs : look s T = some (.v (.bool (decide p)))) (hp : p) (h : AWops P E nt ops (⟨d, op, ty, pos, af, some (j, b)⟩ :: l) ⟨(s, .v (.bool true)) :: T, H⟩ rs K) : AWops P E nt ops (⟨d, op, ty, pos, af, some (j, b)⟩ :: l) ⟨T, H⟩ rs K := Wtest s true hs (decide_eq_true hp) h
theorem Wgf {j s : Nat} {b : Bool} {p : Prop} [Decidable p] (hj : ((ops[j]?).bind (·.dst)) = some s) (hs : look s T = some (.v (.bool (decide p)))) (hp : ¬ p) (h : AWops P E nt ops (⟨d, op, ty, pos, af, some (j, b)⟩ :: l) ⟨(s, .v (.bool false)) :: T, H⟩ rs K) : AWops P E nt ops (⟨d, op, ty, pos, af, some (j, b)⟩ :: l) ⟨T, H⟩ rs K := Wtest s false hs (decide_eq_false hp) h
theorem Wgb {j s : Nat} {b c e : Bool} (hj : ((ops[j]?).bind (·.dst)) = some s) (hs : look s T = some (.v (.bool c))) (hp : c = e) (h : AWops P E nt ops (⟨d, op, ty, pos, af, some (j, b)⟩ :: l) ⟨(s, .v (.bool e)) :: T, H⟩ rs K) : AWops P E nt ops (⟨d, op, ty, pos, af, some (j, b)⟩ :: l) ⟨T, H⟩ rs K := Wtest s e hs hp h
end
end Go.Proofs.Ytphojngdgmnpaaa

namespace Go.Proofs.Ytphojngdgmnpaaa
open Go Go.RowKit
set_option linter.unusedVariables false
set_option linter.unusedSimpArgs false
set_option maxRecDepth 100000

/-- what is still to be shown, kept out of sight of the steps -/
structure Hid (R : Prop) : Prop where
  out : R
theorem wO {Q R : Prop} (k : R) (h : Hid R → Q := by intro kHid; (repeat (first | (first | refine Wend _ ?_ | refine AW_seq ?_ | refine AW_reg ?_ | refine AW_drw mixed ?_ | refine AW_block ?_ | refine AW_scope ?_ | refine thenA_n ?_ | refine blockA_n ?_ | refine blockA_h ?_ | refine scopeA_n ?_ | refine thenA_r ?_ | refine blockA_r ?_ | refine scopeA_r ?_ | refine thenA_e ?_ | refine scopeA_e ?_ | refine blockA_e rfl ?_ | refine AW_exit ?_ | refine AW_ret ?_ | refine AW_skip ?_ | refine AW_c rfl ?_ | with_reducible refine cb_t ?_ | with_reducible refine cb_f ?_ | with_reducible refine cb_yes (by first | assumption | omega) ?_ | with_reducible refine cb_no (by first | assumption | omega) ?_ | refine And.intro (by decide +kernel) ?_) | (first | (apply Wv; (focus (first | exact step_ok rfl rfl | exact o_idx rfl rfl rfl rfl (by first | assumption | omega | decide) | exact o_idx3 rfl rfl rfl rfl (by first | assumption | omega | decide) | exact o_idx2 rfl rfl rfl rfl rfl (by first | assumption | omega | decide) | exact o_idxr rfl rfl rfl rfl rfl rfl | exact o_lenm rfl rfl rfl | exact o_len rfl rfl rfl | exact o_len0 rfl rfl rfl | exact o_lens rfl rfl rfl | exact o_lent rfl rfl | exact o_add1 rfl rfl rfl (by omega) | exact o_addn rfl rfl rfl (by omega) | exact o_add rfl rfl rfl (by omega) | exact o_sub1 rfl rfl rfl (by omega) | exact o_sub rfl rfl rfl (by omega) | exact o_mul rfl rfl rfl (by omega) | exact o_rem rfl rfl rfl (by omega) | exact ok_rem rfl rfl rfl (by decide) rfl | exact o_eqKey rfl rfl rfl | exact o_neKey rfl rfl rfl | exact o_acall rfl rfl rfl rfl (by assumption) | exact o_minn rfl rfl rfl | exact o_cutl rfl rfl rfl rfl (by omega) | exact o_cuth rfl rfl rfl rfl (by omega) | exact o_cutl3 rfl rfl rfl rfl (by omega) | exact o_cuth3 rfl rfl rfl rfl (by omega) | exact o_cutl2 rfl rfl rfl rfl rfl (by omega) | exact o_cuth2 rfl rfl rfl rfl rfl (by omega) | exact o_cutlh2 rfl rfl rfl rfl rfl rfl rfl (by omega) (by omega) | exact o_bld zero_Key rfl rfl rfl rfl rfl rfl rfl | exact o_bld zero_Node rfl rfl rfl rfl rfl rfl rfl)); (focus (first | exact want_n | exact want_g rfl (by with_reducible rfl)))) | (apply Wb; (focus (first | exact o_box rfl rfl rfl rfl | exact o_app rfl rfl rfl rfl rfl (by first | exact o_many rfl | exact o_one _ _ rfl) (by first | omega | (simp; omega) | simp) (by first | omega | (simp; omega) | simp) | exact o_appn rfl rfl rfl rfl rfl (by first | exact o_many rfl | exact o_one _ _ rfl) (by first | omega | (simp; omega) | simp) (by first | omega | (simp; omega) | simp) | exact o_app1 rfl rfl rfl rfl rfl (by first | exact o_many rfl | exact o_one _ _ rfl) (by exact rfl) (by first | omega | (simp; omega) | simp) (by first | omega | (simp; omega) | simp) | exact o_app0 rfl rfl rfl rfl rfl (by first | exact o_many rfl | exact o_one _ _ rfl) (by first | omega | (simp; omega) | simp) (by first | omega | (simp; omega) | simp) | exact o_bsl0 rfl rfl rfl | exact o_bsll zero_slints rfl rfl rfl rfl rfl rfl rfl rfl | exact o_bsll zero_slkeys rfl rfl rfl rfl rfl rfl rfl rfl | exact o_bsll zero_int rfl rfl rfl rfl rfl rfl rfl rfl | exact o_bsll zero_Key rfl rfl rfl rfl rfl rfl rfl rfl | exact o_alloc zero_Key rfl rfl | exact o_alloc zero_Node rfl rfl)); (focus (first | exact want_n | exact want_g rfl (by with_reducible rfl)))) | (apply Ws; (focus (exact ok_store tabT (d := none) rfl rfl rfl rfl rfl rfl rfl rfl rfl rfl)); (focus (first | exact want_n | exact want_g rfl (by with_reducible rfl)))) | (refine Wskip (by first | exact want_f rfl (by with_reducible exact b_nt) | exact want_f rfl (by with_reducible exact b_nf) | exact want_t rfl) rfl ?_) | refine Wgt rfl rfl (by first | assumption | omega | exact rfl) ?_ | refine Wgf rfl rfl (by first | assumption | omega | exact rfl) ?_ | (refine Wgb rfl rfl (by assumption) ?_) | (refine cb_is _ (by assumption) ?_)))); exact kHid.out) : Q := h ⟨k⟩
theorem wL {Q R : Prop} (k : R) (h : Hid R → Q := by intro kHid; (repeat (first | (first | refine Wend _ ?_ | refine AW_seq ?_ | refine AW_reg ?_ | refine AW_drw mixed ?_ | refine AW_block ?_ | refine AW_scope ?_ | refine thenA_n ?_ | refine blockA_n ?_ | refine blockA_h ?_ | refine scopeA_n ?_ | refine thenA_r ?_ | refine blockA_r ?_ | refine scopeA_r ?_ | refine thenA_e ?_ | refine scopeA_e ?_ | refine blockA_e rfl ?_ | refine AW_exit ?_ | refine AW_ret ?_ | refine AW_skip ?_ | refine AW_c rfl ?_ | with_reducible refine cb_t ?_ | with_reducible refine cb_f ?_ | with_reducible refine cb_yes (by first | assumption | omega) ?_ | with_reducible refine cb_no (by first | assumption | omega) ?_ | refine And.intro (by decide +kernel) ?_) | (first | (apply Wv; (focus (first | exact step_ok rfl rfl | exact o_idx rfl rfl rfl rfl (by first | assumption | omega | decide) | exact o_idx3 rfl rfl rfl rfl (by first | assumption | omega | decide) | exact o_idx2 rfl rfl rfl rfl rfl (by first | assumption | omega | decide) | exact o_idxr rfl rfl rfl rfl rfl rfl | exact o_lenm rfl rfl rfl | exact o_len rfl rfl rfl | exact o_len0 rfl rfl rfl | exact o_lens rfl rfl rfl | exact o_lent rfl rfl | exact o_add1 rfl rfl rfl (by omega) | exact o_addn rfl rfl rfl (by omega) | exact o_add rfl rfl rfl (by omega) | exact o_sub1 rfl rfl rfl (by omega) | exact o_sub rfl rfl rfl (by omega) | exact o_mul rfl rfl rfl (by omega) | exact o_rem rfl rfl rfl (by omega) | exact ok_rem rfl rfl rfl (by decide) rfl | exact o_eqKey rfl rfl rfl | exact o_neKey rfl rfl rfl | exact o_eqVl rfl rfl rfl | exact o_neVl rfl rfl rfl | exact o_eqEnt rfl rfl rfl | exact o_neEnt rfl rfl rfl | exact o_eqMsg rfl rfl rfl | exact o_neMsg rfl rfl rfl | exact o_acall rfl rfl rfl rfl (by assumption) | exact o_minn rfl rfl rfl | exact o_cutl rfl rfl rfl rfl (by omega) | exact o_cuth rfl rfl rfl rfl (by omega) | exact o_cutl3 rfl rfl rfl rfl (by omega) | exact o_cuth3 rfl rfl rfl rfl (by omega) | exact o_cutl2 rfl rfl rfl rfl rfl (by omega) | exact o_cuth2 rfl rfl rfl rfl rfl (by omega) | exact o_cutlh2 rfl rfl rfl rfl rfl rfl rfl (by omega) (by omega) | exact e_bld rfl rfl rfl | exact e_bldk rfl rfl | exact z_bld0 rfl rfl rfl rfl rfl | exact z_bld rfl rfl rfl rfl rfl rfl rfl | exact o_addu rfl rfl rfl | exact z_blda rfl rfl rfl rfl rfl rfl rfl rfl rfl | exact o_idxa rfl rfl rfl rfl rfl rfl | exact o_idxra rfl rfl rfl rfl rfl rfl rfl | exact o_quo2 rfl rfl rfl (by omega) | exact o_quo rfl rfl rfl (by omega))); (focus (first | exact want_n | exact want_g rfl (by with_reducible rfl)))) | (apply Wb; (focus (first | exact o_box rfl rfl rfl rfl | exact o_app rfl rfl rfl rfl rfl (by first | exact o_many rfl | exact o_one _ _ rfl) (by first | omega | (simp; omega) | simp) (by first | omega | (simp; omega) | simp) | exact o_appn rfl rfl rfl rfl rfl (by first | exact o_many rfl | exact o_one _ _ rfl) (by first | omega | (simp; omega) | simp) (by first | omega | (simp; omega) | simp) | exact o_app1 rfl rfl rfl rfl rfl (by first | exact o_many rfl | exact o_one _ _ rfl) (by exact rfl) (by first | omega | (simp; omega) | simp) (by first | omega | (simp; omega) | simp) | exact o_app0 rfl rfl rfl rfl rfl (by first | exact o_many rfl | exact o_one _ _ rfl) (by first | omega | (simp; omega) | simp) (by first | omega | (simp; omega) | simp) | exact o_bsl0 rfl rfl rfl | exact z_bsll rfl rfl rfl rfl rfl rfl rfl rfl rfl | exact z_alloc rfl rfl rfl)); (focus (first | exact want_n | exact want_g rfl (by with_reducible rfl)))) | (apply Ws; (focus (exact ok_store tabT (d := none) rfl rfl rfl rfl rfl rfl rfl rfl rfl rfl)); (focus (first | exact want_n | exact want_g rfl (by with_reducible rfl)))) | (refine Wskip (by first | exact want_f rfl (by with_reducible exact b_nt) | exact want_f rfl (by with_reducible exact b_nf) | exact want_t rfl) rfl ?_) | refine Wgt rfl rfl (by first | assumption | omega | exact rfl) ?_ | refine Wgf rfl rfl (by first | assumption | omega | exact rfl) ?_ | (refine Wgb rfl rfl (by with_reducible assumption) ?_) | (refine cb_is _ (by assumption) ?_)))); exact kHid.out) : Q := h ⟨k⟩
theorem wS {Q R : Prop} (k : R) (h : Hid R → Q := by intro kHid; (repeat (first | (first | refine Wend _ ?_ | refine AW_seq ?_ | refine AW_reg ?_ | refine AW_drw mixed ?_ | refine AW_block ?_ | refine AW_scope ?_ | refine thenA_n ?_ | refine blockA_n ?_ | refine blockA_h ?_ | refine scopeA_n ?_ | refine thenA_r ?_ | refine blockA_r ?_ | refine scopeA_r ?_ | refine thenA_e ?_ | refine scopeA_e ?_ | refine blockA_e rfl ?_ | refine AW_exit ?_ | refine AW_ret ?_ | refine AW_skip ?_ | refine AW_c rfl ?_ | with_reducible refine cb_t ?_ | with_reducible refine cb_f ?_ | with_reducible refine cb_yes (by first | assumption | omega) ?_ | with_reducible refine cb_no (by first | assumption | omega) ?_ | refine And.intro (by decide +kernel) ?_) | (first | (apply Wv; (focus (first | exact step_ok rfl rfl | exact o_idx rfl rfl rfl rfl (by first | assumption | omega | decide) | exact o_idx3 rfl rfl rfl rfl (by first | assumption | omega | decide) | exact o_idx2 rfl rfl rfl rfl rfl (by first | assumption | omega | decide) | exact o_idxr rfl rfl rfl rfl rfl rfl | exact o_lenm rfl rfl rfl | exact o_len rfl rfl rfl | exact o_len0 rfl rfl rfl | exact o_lens rfl rfl rfl | exact o_lent rfl rfl | exact o_add1 rfl rfl rfl (by omega) | exact o_addn rfl rfl rfl (by omega) | exact o_add rfl rfl rfl (by omega) | exact o_sub1 rfl rfl rfl (by omega) | exact o_sub rfl rfl rfl (by omega) | exact o_mul rfl rfl rfl (by omega) | exact o_rem rfl rfl rfl (by omega) | exact ok_rem rfl rfl rfl (by decide) rfl | exact o_eqKey rfl rfl rfl | exact o_neKey rfl rfl rfl | exact o_eqVl rfl rfl rfl | exact o_neVl rfl rfl rfl | exact o_eqEnt rfl rfl rfl | exact o_neEnt rfl rfl rfl | exact o_eqMsg rfl rfl rfl | exact o_neMsg rfl rfl rfl | exact o_acall rfl rfl rfl rfl (by assumption) | exact o_minn rfl rfl rfl | exact o_cutl rfl rfl rfl rfl (by omega) | exact o_cuth rfl rfl rfl rfl (by omega) | exact o_cutl3 rfl rfl rfl rfl (by omega) | exact o_cuth3 rfl rfl rfl rfl (by omega) | exact o_cutl2 rfl rfl rfl rfl rfl (by omega) | exact o_cuth2 rfl rfl rfl rfl rfl (by omega) | exact o_cutlh2 rfl rfl rfl rfl rfl rfl rfl (by omega) (by omega) | exact e_bld rfl rfl rfl | exact e_bldk rfl rfl | exact z_bld0 rfl rfl rfl rfl rfl | exact z_bld rfl rfl rfl rfl rfl rfl rfl | exact o_addu rfl rfl rfl | exact o_mulu rfl rfl rfl (by decide) | exact o_convb ⟨_, Try.underlying3⟩ Try.underlying5 rfl rfl | exact o_convu ⟨_, Try.underlying3⟩ Try.underlying36 rfl rfl | exact o_convs Try.underlying33 Try.underlying5 Try.underlying9 rfl rfl | exact o_idxs rfl rfl rfl rfl (by first | assumption | omega) | exact z_blda rfl rfl rfl rfl rfl rfl rfl rfl rfl | exact o_idxa rfl rfl rfl rfl rfl rfl | exact o_idxra rfl rfl rfl rfl rfl rfl rfl | exact o_quo2 rfl rfl rfl (by omega) | exact o_quo rfl rfl rfl (by omega))); (focus (first | exact want_n | exact want_g rfl (by with_reducible rfl)))) | (apply Wb; (focus (first | exact o_box rfl rfl rfl rfl | exact o_app rfl rfl rfl rfl rfl (by first | exact o_many rfl | exact o_one _ _ rfl) (by first | omega | (simp; omega) | simp) (by first | omega | (simp; omega) | simp) | exact o_appn rfl rfl rfl rfl rfl (by first | exact o_many rfl | exact o_one _ _ rfl) (by first | omega | (simp; omega) | simp) (by first | omega | (simp; omega) | simp) | exact o_app1 rfl rfl rfl rfl rfl (by first | exact o_many rfl | exact o_one _ _ rfl) (by exact rfl) (by first | omega | (simp; omega) | simp) (by first | omega | (simp; omega) | simp) | exact o_app0 rfl rfl rfl rfl rfl (by first | exact o_many rfl | exact o_one _ _ rfl) (by first | omega | (simp; omega) | simp) (by first | omega | (simp; omega) | simp) | exact o_bsl0 rfl rfl rfl | exact z_bsll rfl rfl rfl rfl rfl rfl rfl rfl rfl | exact z_alloc rfl rfl rfl)); (focus (first | exact want_n | exact want_g rfl (by with_reducible rfl)))) | (apply Ws; (focus (exact ok_store tabT (d := none) rfl rfl rfl rfl rfl rfl rfl rfl rfl rfl)); (focus (first | exact want_n | exact want_g rfl (by with_reducible rfl)))) | (refine Wskip (by first | exact want_f rfl (by with_reducible exact b_nt) | exact want_f rfl (by with_reducible exact b_nf) | exact want_t rfl) rfl ?_) | refine Wgt rfl rfl (by first | assumption | omega | exact rfl) ?_ | refine Wgf rfl rfl (by first | assumption | omega | exact rfl) ?_ | (refine Wgb rfl rfl (by with_reducible assumption) ?_) | (refine cb_is _ (by assumption) ?_)))); exact kHid.out) : Q := h ⟨k⟩
theorem wI {Q R : Prop} (k : R) (h : Hid R → Q := by intro kHid; (repeat (first | (first | refine Wend _ ?_ | refine AW_seq ?_ | refine AW_reg ?_ | refine AW_drw mixed ?_ | refine AW_block ?_ | refine AW_scope ?_ | refine thenA_n ?_ | refine blockA_n ?_ | refine blockA_h ?_ | refine scopeA_n ?_ | refine thenA_r ?_ | refine blockA_r ?_ | refine scopeA_r ?_ | refine thenA_e ?_ | refine scopeA_e ?_ | refine blockA_e rfl ?_ | refine AW_exit ?_ | refine AW_ret ?_ | refine AW_skip ?_ | refine AW_c rfl ?_ | with_reducible refine cb_t ?_ | with_reducible refine cb_f ?_ | with_reducible refine cb_yes (by first | assumption | omega) ?_ | with_reducible refine cb_no (by first | assumption | omega) ?_ | refine And.intro (by decide +kernel) ?_) | (first | (apply Wv; (focus (first | exact step_ok rfl rfl | exact o_idx rfl rfl rfl rfl (by first | assumption | omega | decide) | exact o_idx3 rfl rfl rfl rfl (by first | assumption | omega | decide) | exact o_idx2 rfl rfl rfl rfl rfl (by first | assumption | omega | decide) | exact o_idxr rfl rfl rfl rfl rfl rfl | exact o_lenm rfl rfl rfl | exact o_len rfl rfl rfl | exact o_len0 rfl rfl rfl | exact o_lens rfl rfl rfl | exact o_lent rfl rfl | exact o_add1 rfl rfl rfl (by omega) | exact o_addn rfl rfl rfl (by omega) | exact o_add rfl rfl rfl (by omega) | exact o_sub1 rfl rfl rfl (by omega) | exact o_sub rfl rfl rfl (by omega) | exact o_mul rfl rfl rfl (by omega) | exact o_rem rfl rfl rfl (by omega) | exact ok_rem rfl rfl rfl (by decide) rfl | exact o_eqKey rfl rfl rfl | exact o_neKey rfl rfl rfl | exact o_eqVl rfl rfl rfl | exact o_neVl rfl rfl rfl | exact o_eqEnt rfl rfl rfl | exact o_neEnt rfl rfl rfl | exact o_eqMsg rfl rfl rfl | exact o_neMsg rfl rfl rfl | exact o_acall rfl rfl rfl rfl (by assumption) | exact o_minn rfl rfl rfl | exact o_cutl rfl rfl rfl rfl (by omega) | exact o_cuth rfl rfl rfl rfl (by omega) | exact o_cutl3 rfl rfl rfl rfl (by omega) | exact o_cuth3 rfl rfl rfl rfl (by omega) | exact o_cutl2 rfl rfl rfl rfl rfl (by omega) | exact o_cuth2 rfl rfl rfl rfl rfl (by omega) | exact o_cutlh2 rfl rfl rfl rfl rfl rfl rfl (by omega) (by omega) | exact e_bld rfl rfl rfl | exact e_bldk rfl rfl | exact z_bld0 rfl rfl rfl rfl rfl | exact z_bld rfl rfl rfl rfl rfl rfl rfl | exact o_addu rfl rfl rfl | exact o_mulu rfl rfl rfl (by decide) | exact o_convb ⟨_, Try.underlying3⟩ Try.underlying5 rfl rfl | exact o_convu ⟨_, Try.underlying3⟩ Try.underlying36 rfl rfl | exact o_convs Try.underlying33 Try.underlying5 Try.underlying9 rfl rfl | exact o_idxs rfl rfl rfl rfl (by first | assumption | omega) | exact o_mkifc rfl rfl rfl (by decide +kernel) | exact o_asy rfl rfl rfl (by decide +kernel) | exact o_asn rfl rfl rfl rfl (by decide +kernel) (by decide +kernel) | exact o_minv rfl rfl rfl rfl rfl rfl (by assumption) | exact z_blda rfl rfl rfl rfl rfl rfl rfl rfl rfl | exact o_idxa rfl rfl rfl rfl rfl rfl | exact o_idxra rfl rfl rfl rfl rfl rfl rfl | exact o_quo2 rfl rfl rfl (by omega) | exact o_quo rfl rfl rfl (by omega))); (focus (first | exact want_n | exact want_g rfl (by with_reducible rfl)))) | (apply Wb; (focus (first | exact o_box rfl rfl rfl rfl | exact o_app rfl rfl rfl rfl rfl (by first | exact o_many rfl | exact o_one _ _ rfl) (by first | omega | (simp; omega) | simp) (by first | omega | (simp; omega) | simp) | exact o_appn rfl rfl rfl rfl rfl (by first | exact o_many rfl | exact o_one _ _ rfl) (by first | omega | (simp; omega) | simp) (by first | omega | (simp; omega) | simp) | exact o_app1 rfl rfl rfl rfl rfl (by first | exact o_many rfl | exact o_one _ _ rfl) (by exact rfl) (by first | omega | (simp; omega) | simp) (by first | omega | (simp; omega) | simp) | exact o_app0 rfl rfl rfl rfl rfl (by first | exact o_many rfl | exact o_one _ _ rfl) (by first | omega | (simp; omega) | simp) (by first | omega | (simp; omega) | simp) | exact o_bsl0 rfl rfl rfl | exact z_bsll rfl rfl rfl rfl rfl rfl rfl rfl rfl | exact z_alloc rfl rfl rfl)); (focus (first | exact want_n | exact want_g rfl (by with_reducible rfl)))) | (apply Ws; (focus (exact ok_store tabT (d := none) rfl rfl rfl rfl rfl rfl rfl rfl rfl rfl)); (focus (first | exact want_n | exact want_g rfl (by with_reducible rfl)))) | (refine Wskip (by first | exact want_f rfl (by with_reducible exact b_nt) | exact want_f rfl (by with_reducible exact b_nf) | exact want_t rfl) rfl ?_) | refine Wgt rfl rfl (by first | assumption | omega | exact rfl) ?_ | refine Wgf rfl rfl (by first | assumption | omega | exact rfl) ?_ | (refine Wgb rfl rfl (by with_reducible assumption) ?_) | (refine cb_is _ (by assumption) ?_)))); exact kHid.out) : Q := h ⟨k⟩
theorem wF {Q R : Prop} (k : R) (h : Hid R → Q := by intro kHid; (repeat (first | (first | refine Wend _ ?_ | refine AW_seq ?_ | refine AW_reg ?_ | refine AW_drw mixed ?_ | refine AW_block ?_ | refine AW_scope ?_ | refine thenA_n ?_ | refine blockA_n ?_ | refine blockA_h ?_ | refine scopeA_n ?_ | refine thenA_r ?_ | refine blockA_r ?_ | refine scopeA_r ?_ | refine thenA_e ?_ | refine scopeA_e ?_ | refine blockA_e rfl ?_ | refine AW_exit ?_ | refine AW_ret ?_ | refine AW_skip ?_ | refine AW_c rfl ?_ | with_reducible refine cb_t ?_ | with_reducible refine cb_f ?_ | with_reducible refine cb_yes (by first | assumption | omega) ?_ | with_reducible refine cb_no (by first | assumption | omega) ?_ | refine And.intro (by decide +kernel) ?_) | (first | (apply Wv; (focus (first | exact step_ok rfl rfl | exact o_idx rfl rfl rfl rfl (by first | assumption | omega | decide) | exact o_idx3 rfl rfl rfl rfl (by first | assumption | omega | decide) | exact o_idx2 rfl rfl rfl rfl rfl (by first | assumption | omega | decide) | exact o_idxr rfl rfl rfl rfl rfl rfl | exact o_lenm rfl rfl rfl | exact o_len rfl rfl rfl | exact o_len0 rfl rfl rfl | exact o_lens rfl rfl rfl | exact o_lent rfl rfl | exact o_add1 rfl rfl rfl (by omega) | exact o_addn rfl rfl rfl (by omega) | exact o_add rfl rfl rfl (by omega) | exact o_sub1 rfl rfl rfl (by omega) | exact o_sub rfl rfl rfl (by omega) | exact o_mul rfl rfl rfl (by omega) | exact o_rem rfl rfl rfl (by omega) | exact ok_rem rfl rfl rfl (by decide) rfl | exact o_eqKey rfl rfl rfl | exact o_neKey rfl rfl rfl | exact o_eqVl rfl rfl rfl | exact o_neVl rfl rfl rfl | exact o_eqEnt rfl rfl rfl | exact o_neEnt rfl rfl rfl | exact o_eqMsg rfl rfl rfl | exact o_neMsg rfl rfl rfl | exact o_acall rfl rfl rfl rfl (by assumption) | exact o_minn rfl rfl rfl | exact o_cutl rfl rfl rfl rfl (by omega) | exact o_cuth rfl rfl rfl rfl (by omega) | exact o_cutl3 rfl rfl rfl rfl (by omega) | exact o_cuth3 rfl rfl rfl rfl (by omega) | exact o_cutl2 rfl rfl rfl rfl rfl (by omega) | exact o_cuth2 rfl rfl rfl rfl rfl (by omega) | exact o_cutlh2 rfl rfl rfl rfl rfl rfl rfl (by omega) (by omega) | exact e_bld rfl rfl rfl | exact e_bldk rfl rfl | exact z_bld0 rfl rfl rfl rfl rfl | exact z_bld rfl rfl rfl rfl rfl rfl rfl | exact o_addu rfl rfl rfl | exact o_mkfn rfl rfl rfl | exact o_callv rfl rfl rfl rfl rfl rfl (by assumption) | exact o_shr1 rfl rfl rfl | exact o_cviu ⟨_, Try.underlying3⟩ Try.underlying103 rfl rfl (by omega) | exact o_cvui ⟨_, Try.underlying103⟩ Try.underlying3 rfl rfl (by omega) | exact z_blda rfl rfl rfl rfl rfl rfl rfl rfl rfl | exact o_idxa rfl rfl rfl rfl rfl rfl | exact o_idxra rfl rfl rfl rfl rfl rfl rfl | exact o_quo2 rfl rfl rfl (by omega) | exact o_quo rfl rfl rfl (by omega))); (focus (first | exact want_n | exact want_g rfl (by with_reducible rfl)))) | (apply Wb; (focus (first | exact o_box rfl rfl rfl rfl | exact o_app rfl rfl rfl rfl rfl (by first | exact o_many rfl | exact o_one _ _ rfl) (by first | omega | (simp; omega) | simp) (by first | omega | (simp; omega) | simp) | exact o_appn rfl rfl rfl rfl rfl (by first | exact o_many rfl | exact o_one _ _ rfl) (by first | omega | (simp; omega) | simp) (by first | omega | (simp; omega) | simp) | exact o_app1 rfl rfl rfl rfl rfl (by first | exact o_many rfl | exact o_one _ _ rfl) (by exact rfl) (by first | omega | (simp; omega) | simp) (by first | omega | (simp; omega) | simp) | exact o_app0 rfl rfl rfl rfl rfl (by first | exact o_many rfl | exact o_one _ _ rfl) (by first | omega | (simp; omega) | simp) (by first | omega | (simp; omega) | simp) | exact o_bsl0 rfl rfl rfl | exact z_bsll rfl rfl rfl rfl rfl rfl rfl rfl rfl | exact z_alloc rfl rfl rfl)); (focus (first | exact want_n | exact want_g rfl (by with_reducible rfl)))) | (apply Ws; (focus (exact ok_store tabT (d := none) rfl rfl rfl rfl rfl rfl rfl rfl rfl rfl)); (focus (first | exact want_n | exact want_g rfl (by with_reducible rfl)))) | (refine Wskip (by first | exact want_f rfl (by with_reducible exact b_nt) | exact want_f rfl (by with_reducible exact b_nf) | exact want_t rfl) rfl ?_) | refine Wgt rfl rfl (by first | assumption | omega | exact rfl) ?_ | refine Wgf rfl rfl (by first | assumption | omega | exact rfl) ?_ | (refine Wgb rfl rfl (by with_reducible assumption) ?_) | (refine cb_is _ (by assumption) ?_)))); exact kHid.out) : Q := h ⟨k⟩
theorem wB {Q R : Prop} (k : R) (h : Hid R → Q := by intro kHid; (repeat (first | (first | refine Wend _ ?_ | refine AW_seq ?_ | refine AW_reg ?_ | refine AW_drw mixed ?_ | refine AW_block ?_ | refine AW_scope ?_ | refine thenA_n ?_ | refine blockA_n ?_ | refine blockA_h ?_ | refine scopeA_n ?_ | refine thenA_r ?_ | refine blockA_r ?_ | refine scopeA_r ?_ | refine thenA_e ?_ | refine scopeA_e ?_ | refine blockA_e rfl ?_ | refine AW_exit ?_ | refine AW_ret ?_ | refine AW_skip ?_ | refine AW_c rfl ?_ | with_reducible refine cb_t ?_ | with_reducible refine cb_f ?_ | with_reducible refine cb_yes (by first | assumption | omega) ?_ | with_reducible refine cb_no (by first | assumption | omega) ?_ | refine And.intro (by decide +kernel) ?_) | (first | (apply Wv; (focus (first | exact step_ok rfl rfl | exact o_idx rfl rfl rfl rfl (by first | assumption | omega | decide) | exact o_idx3 rfl rfl rfl rfl (by first | assumption | omega | decide) | exact o_idxr rfl rfl rfl rfl rfl rfl | exact o_lenm rfl rfl rfl | exact o_len rfl rfl rfl | exact o_len0 rfl rfl rfl | exact o_add1 rfl rfl rfl (by omega) | exact o_add rfl rfl rfl (by omega) | exact o_sub1 rfl rfl rfl (by omega) | exact o_sub rfl rfl rfl (by omega) | exact o_acall rfl rfl rfl rfl (by assumption) | exact e_bld rfl rfl rfl)); (focus (first | exact want_n | exact want_g rfl (by with_reducible rfl)))) | (apply Wb; (focus (first | exact o_box rfl rfl rfl rfl | exact o_app rfl rfl rfl rfl rfl (by first | exact o_many rfl | exact o_one _ _ rfl) (by first | omega | (simp; omega) | simp) (by first | omega | (simp; omega) | simp) | exact o_appn rfl rfl rfl rfl rfl (by first | exact o_many rfl | exact o_one _ _ rfl) (by first | omega | (simp; omega) | simp) (by first | omega | (simp; omega) | simp) | exact o_app1 rfl rfl rfl rfl rfl (by first | exact o_many rfl | exact o_one _ _ rfl) (by exact rfl) (by first | omega | (simp; omega) | simp) (by first | omega | (simp; omega) | simp) | exact o_app0 rfl rfl rfl rfl rfl (by first | exact o_many rfl | exact o_one _ _ rfl) (by first | omega | (simp; omega) | simp) (by first | omega | (simp; omega) | simp) | exact o_bsl0 rfl rfl rfl | exact z_bsll rfl rfl rfl rfl rfl rfl rfl rfl rfl | exact z_alloc rfl rfl rfl)); (focus (first | exact want_n | exact want_g rfl (by with_reducible rfl)))) | (apply Ws; (focus (exact ok_store tabT (d := none) rfl rfl rfl rfl rfl rfl rfl rfl rfl rfl)); (focus (first | exact want_n | exact want_g rfl (by with_reducible rfl)))) | (refine Wskip (by first | exact want_f rfl (by with_reducible exact b_nt) | exact want_f rfl (by with_reducible exact b_nf) | exact want_t rfl) rfl ?_) | refine Wgt rfl rfl (by first | assumption | omega | exact rfl) ?_ | refine Wgf rfl rfl (by first | assumption | omega | exact rfl) ?_ | (refine Wgb rfl rfl (by with_reducible assumption) ?_) | (refine cb_is _ (by assumption) ?_)))); exact kHid.out) : Q := h ⟨k⟩
theorem wC {Q R : Prop} (k : R) (h : Hid R → Q := by intro kHid; (repeat (first | (first | refine Wend _ ?_ | refine AW_seq ?_ | refine AW_reg ?_ | refine AW_drw mixed ?_ | refine AW_block ?_ | refine AW_scope ?_ | refine thenA_n ?_ | refine blockA_n ?_ | refine blockA_h ?_ | refine scopeA_n ?_ | refine thenA_r ?_ | refine blockA_r ?_ | refine scopeA_r ?_ | refine thenA_e ?_ | refine scopeA_e ?_ | refine blockA_e rfl ?_ | refine AW_exit ?_ | refine AW_ret ?_ | refine AW_skip ?_ | refine AW_c rfl ?_ | with_reducible refine cb_t ?_ | with_reducible refine cb_f ?_ | with_reducible refine cb_yes (by first | assumption | omega) ?_ | with_reducible refine cb_no (by first | assumption | omega) ?_ | refine And.intro (by decide +kernel) ?_) | (first | (apply Wv; (focus (first | exact step_ok rfl rfl | exact o_add1 rfl rfl rfl (by omega) | exact o_add rfl rfl rfl (by omega) | exact o_sub1 rfl rfl rfl (by omega) | exact o_sub rfl rfl rfl (by omega) | exact o_eqKey rfl rfl rfl | exact o_neKey rfl rfl rfl | exact o_eqVl rfl rfl rfl | exact o_neVl rfl rfl rfl | exact o_acall rfl rfl rfl rfl (by assumption) | exact z_bld0 rfl rfl rfl rfl rfl | exact z_bld rfl rfl rfl rfl rfl rfl rfl | exact o_addu rfl rfl rfl)); (focus (first | exact want_n | exact want_g rfl (by with_reducible rfl)))) | (apply Wb; (focus (first | exact o_box rfl rfl rfl rfl | exact z_alloc rfl rfl rfl)); (focus (first | exact want_n | exact want_g rfl (by with_reducible rfl)))) | (apply Ws; (focus (exact ok_store tabT (d := none) rfl rfl rfl rfl rfl rfl rfl rfl rfl rfl)); (focus (first | exact want_n | exact want_g rfl (by with_reducible rfl)))) | (refine Wskip (by first | exact want_f rfl (by with_reducible exact b_nt) | exact want_f rfl (by with_reducible exact b_nf) | exact want_t rfl) rfl ?_) | refine Wgt rfl rfl (by first | assumption | omega | exact rfl) ?_ | refine Wgf rfl rfl (by first | assumption | omega | exact rfl) ?_ | (refine Wgb rfl rfl (by with_reducible assumption) ?_) | (refine cb_is _ (by assumption) ?_)))); exact kHid.out) : Q := h ⟨k⟩
end Go.Proofs.Ytphojngdgmnpaaa

namespace Go.Proofs.Ytphojngdgmnpaaa
open Go Go.RowKit
set_option linter.unusedVariables false
set_option linter.unusedSimpArgs false
set_option maxRecDepth 100000

def nodeA (leaf : Bool) (es ks ps ms : AV) : AV := .agg 5 [boolA leaf, es, ks, ps, ms]
def nilA : AV := .v (.slice none 0 0)
section
variable {E : Env} {nt : Nat} {ops : Array Oper} {T : Nat → Option AV} {H : Hp} {d : Option Nat} {ty : TypeId} {pos : String} {af : Array Edge} {gd : Option (Nat × Bool)}
theorem o_app1 {α : Type} {f : α → AV} {s x : Operand} {t tx e : TypeId} {es bytes : Nat} {ea : Bool} {tk : Nat} {x0 : α} {y0 : AV} {zs : List α} {src : AV} (hd : dOk nt d = true) (hs : tabT.ti t = some (.sl e es bytes ea))
    (hy : evalO T x = some src) (hx : evalO T s = some (.sl (some tk) es [y0])) (hg : H tk = some (.tail e es 1)) (hsrc : SrcOf Try.prog tx es src (zs.map f)) (h0 : y0 = f x0) (hlen : (1 + zs.length) * bytes ≤ 140737488355328) (hlen2 : 1 + zs.length ≤ 9223372036854775807) :
    OpOK Try.prog E nt ops ⟨d, .call { callee := .builtin .append, args := #[s, x], argTypes := #[t, tx] }, ty, pos, af, gd⟩ T H [tk] ⟨.sl (some tk) es ((x0 :: zs).map f), [(tk, .tail e es (x0 :: zs).length)]⟩ :=
  o_app (f := f) (xs := [x0]) (zs := zs) hd hs (by rw [hx, h0]; rfl) hg hy hsrc (by simpa using hlen) (by simpa using hlen2)
end
theorem res_varw {S : St} {a t g n : Nat} {fs ys : List AV} (ha : S.t a = some (.ptr g 0 [])) (hg : S.h g = some (.var (.agg n fs))) (hs : tabT.sa t = some (true, n)) (hw : weakA fs = some ys) : Res1 Try.prog S (.cell a t) (.agg n ys) := ⟨g, .agg n fs, ha, hg, tabT.tyOf hs, Wk.agg (weakA_wkl _ _ hw)⟩
end Go.Proofs.Ytphojngdgmnpaaa

namespace Go.Proofs.Ytphojngdgmnpaaa
open Go Go.RowKit
set_option linter.unusedVariables false
set_option linter.unusedSimpArgs false
set_option maxRecDepth 100000

theorem sumS_u {n : Nat} : ∀ (zs : List AV) (i : Nat), (∀ z ∈ zs, sizeA z = n) → i ≤ zs.length → sumS (zs.take i) = i * n
  | zs, 0, h, hi => by simp [sumS]
  | [], i + 1, h, hi => by simp at hi
  | z :: zs, i + 1, h, hi => by
    simp only [List.take_succ_cons, sumS]
    rw [sumS_u zs i (fun z hz => h z (List.mem_cons_of_mem _ hz)) (by simpa using hi), h z (by simp), Nat.succ_mul]
    omega
section
variable {P : Program} {E : Env} {nt : Nat} {ops : Array Oper} {T : Nat → Option AV} {H : Hp} {d : Option Nat} {ty : TypeId} {pos : String} {af : Array Edge} {gd : Option (Nat × Bool)} (tb : Tab P)
theorem ok_bldarr {t e : TypeId} {tn len es : Nat} {ea : Bool} {l : List (Nat × Operand)} {vs : List (Nat × AV)} {zs out ys : List AV} (hd : dOk nt d = true) (hs : tb.ti t = some (.arr tn len es ea e)) (hz : ZeroOk P t (.arr tn es zs)) (hv : partsA T l = some vs) (ho : fillA vs zs = some out) (hw : ∀ H', WkL H' out ys)
    (hzs : zs.all (fun x => Nat.beq (sizeA x) es) = true) (hos : out.all (fun x => Nat.beq (sizeA x) es) = true) (hlen : out.length = zs.length) :
    OpOK P E nt ops ⟨d, .build t l.toArray, ty, pos, af, gd⟩ T H [] ⟨.arr tn es ys, []⟩ :=
  ok_val hd fun B T' H' a w r ht hh => by
    obtain ⟨⟨_, hu0, _, _⟩, hu, hte⟩ := tb.ok t _ hs
    obtain ⟨i, zv, z1, z2, z3⟩ := hz
    have hzr := z3 (unst E B H') w
    simp only [Rd] at hzr
    have hzl : ∀ z ∈ zs, sizeA z = es := fun x hx => Nat.eq_of_beq_eq_true (List.all_eq_true.1 hzs x hx)
    have hol : ∀ z ∈ out, sizeA z = es := fun x hx => Nat.eq_of_beq_eq_true (List.all_eq_true.1 hos x hx)
    have hm := Rdu_rds (Rdu_go (Evo.refl _ w) (fun _ _ _ h => h) _ _ ⟨fun g b h _ => by simp [H0, isVar] at h, fun g h => by simp [H0, isVar] at h, fun t n len A cap h => by obtain ⟨e, k, h, _⟩ := h; simp [H0] at h, fun g n len k v h => by obtain ⟨e, xs, h, _⟩ := h; simp [H0] at h⟩ hzr.2 : Rdu (unst E B H') w es zs B H' _)
    have hv' := parts_agree hv (T' := T') (fun p hp => ht p.2 (by simp [Op.operands]; exact ⟨p.1, hp⟩))
    obtain ⟨cells', q1, q2⟩ := fill_rds r l vs zs out _ hv' ho (place := fun i => some (i * es, es)) (fun i y h => by
      have hlt := (List.getElem?_eq_some_iff.1 h).1
      rw [sumS_u zs i hzl (by omega), hzl y (List.mem_of_getElem? h)]) hm
    have hrdu := (hw H').rdu (Rds_rdu q2 hol)
    have hcl : cells'.length = tn := by
      have e1 := Rdu_len (Rds_rdu q2 hol)
      have e2 := Rdu_len hzr.2
      rw [e1, hlen, ← e2, hzr.1]
    obtain ⟨de, hie⟩ : ∃ ie, P.info? e = some ie ∧ ie.size = es := by
      obtain ⟨_, _, _, h⟩ := hte
      cases hi : P.info? e with
      | none => rw [hi] at h; cases h
      | some ie => rw [hi] at h; simp at h; exact ⟨ie, rfl, h⟩
    have hb : P.built t (l.map fun p => (p.1, a.eval p.2)) = some cells'.toArray := by
      unfold Program.built
      simp only [z1, hu, z2, hie.1, hie.2]
      have := fill_of_fillS _ _ _ q1
      simpa using this
    refine ⟨.agg cells'.toArray, ?_, ?_⟩
    · have hrb := run_build (P := P) w t (l.map fun p => (p.1, a.eval p.2)).toArray cells'.toArray (by simpa using hb)
      simp only [execOp]
      have hm : (Array.map (fun x => (x.1, a.eval x.2)) l.toArray) = (l.map fun p => (p.1, a.eval p.2)).toArray := by simp
      simp only [hm, Sem.run_bind, hrb]
      rfl
    · rw [Rdv_not (by simp)]
      exact ⟨cells', by simp only [Rd]; exact ⟨hcl, hrdu⟩, rfl⟩
end
section
variable {E : Env} {nt : Nat} {ops : Array Oper} {T : Nat → Option AV} {H : Hp} {d : Option Nat} {ty : TypeId} {pos : String} {af : Array Edge} {gd : Option (Nat × Bool)}
set_option maxRecDepth 100000 in
theorem o_blda {t e : TypeId} {tn len es : Nat} {ea : Bool} {l : List (Nat × Operand)} {vs : List (Nat × AV)} {zs out out' : List AV} {z : AV} (hz : ZeroOk Try.prog t z) (hze : z = .arr tn es zs) (hd : dOk nt d = true) (hs : tabT.ti t = some (.arr tn len es ea e)) (hv : partsA T l = some vs) (ho : fillA vs zs = some out) (hw : weakA out = some out')
    (hzs : zs.all (fun x => Nat.beq (sizeA x) es) = true) (hos : out.all (fun x => Nat.beq (sizeA x) es) = true) (hlen : out.length = zs.length) :
    OpOK Try.prog E nt ops ⟨d, .build t l.toArray, ty, pos, af, gd⟩ T H [] ⟨.arr tn es out', []⟩ := by
  subst hze
  exact ok_bldarr tabT hd hs hz hv ho (fun _ => weakA_wkl _ _ hw) hzs hos hlen
/-- an element's address in an array of the function's own -/
theorem o_idxa {x ix : Operand} {t e : TypeId} {tn len es : Nat} {ea : Bool} {g off : Nat} {p : List Nat} {k : IntKind} {i : Int} {j : Nat} (hd : dOk nt d = true) (hs : tabT.ti t = some (.arr tn len es ea e)) (hx : evalO T x = some (.ptr g off p)) (hi : evalO T ix = some (.v (.int k i)))
    (hj : natOf i = some j) (hl : Nat.blt j len = true) : OpOK Try.prog E nt ops ⟨d, .indexAddr t x ix, ty, pos, af, gd⟩ T H [] ⟨.ptr g (off + j * es) (p ++ [j]), []⟩ := by
  have := natOf_eq hj; subst this
  have hl' : j < len := Nat.le_of_ble_eq_true hl
  exact ok_idx_ptr tabT hd hs hx hi (Int.natCast_nonneg j) (by omega)
/-- an element of an array that is handed in -/
theorem o_idxra {x ix : Operand} {t e : TypeId} {tn len es : Nat} {ea : Bool} {m : Nat} {xs : List AV} {k : IntKind} {i : Int} {j : Nat} {y : AV} (hd : dOk nt d = true) (hs : tabT.ti t = some (.arr tn len es ea e)) (hx : evalO T x = some (.ref (.arr m es xs))) (hi : evalO T ix = some (.v (.int k i))) (hj : natOf i = some j) (hl : Nat.blt j len = true) (hy : xs[j]? = some y) :
    OpOK Try.prog E nt ops ⟨d, .indexAddr t x ix, ty, pos, af, gd⟩ T H [] ⟨.ref y, []⟩ := by
  have := natOf_eq hj; subst this
  have hl' : j < len := Nat.le_of_ble_eq_true hl
  exact ok_idx_refarr tabT hd hs hx hi (Int.natCast_nonneg j) (by omega) (by simpa using hy)
end

/-! ### zero values, by a table -/
theorem zero_u64 : ZeroOk Try.prog 36 (u64A 0#64) := zero_of (v := .int .u64 0) (n := 1) (by kernel_rfl) fun U w => (rd_v rfl).2 (by rw [D64_zero]; rfl)
theorem zero_bool : ZeroOk Try.prog 4 (boolA false) := zero_of (v := .bool false) (n := 1) (by kernel_rfl) fun U w => (rd_v rfl).2 rfl
theorem zero_slents : ZeroOk Try.prog 74 (.v (.slice none 0 0)) := zero_of (v := .slice none 0 0) (n := 1) (by kernel_rfl) fun U w => (rd_v rfl).2 rfl
theorem zero_two : ZeroOk Try.prog 130 (.arr 2 1 [intA 0, intA 0]) := zero_of (v := .agg #[.int .i64 0, .int .i64 0]) (n := 2) (by kernel_rfl) fun U w => by
  simp only [intA, Rd, Rdu, Value.cells]
  exact ⟨rfl, [_], _, rfl, rfl, ⟨rfl, rfl⟩, [_], _, rfl, rfl, ⟨rfl, rfl⟩, rfl⟩
def zeroT (t : TypeId) : Option AV :=
  bif Nat.beq t 93 then some Key.zero.av else
  bif Nat.beq t 42 then some Vl.zero.av else
  bif Nat.beq t 112 then some Msg.zero.av else
  bif Nat.beq t 97 then some Ent.zero.av else
  bif Nat.beq t 3 then some (intA 0) else
  bif Nat.beq t 5 then some (byteA 0#8) else
  bif Nat.beq t 36 then some (u64A 0#64) else
  bif Nat.beq t 4 then some (boolA false) else
  bif Nat.beq t 130 then some (.arr 2 1 [intA 0, intA 0]) else
  bif Nat.beq t 22 then some (.v (.slice none 0 0)) else
  bif Nat.beq t 74 then some (.v (.slice none 0 0)) else
  none
theorem bif_ok {t u : TypeId} {a z : AV} {r : Option AV} (ha : ZeroOk Try.prog u a) (hr : r = some z → ZeroOk Try.prog t z) (h : (bif Nat.beq t u then some a else r) = some z) : ZeroOk Try.prog t z := by
  cases hb : Nat.beq t u with
  | true => rw [hb, cond_true, Option.some.injEq] at h; subst h; have := Nat.eq_of_beq_eq_true hb; subst this; exact ha
  | false => rw [hb, cond_false] at h; exact hr h
set_option maxRecDepth 100000 in
theorem zeroT_ok {t : TypeId} {z : AV} (h : zeroT t = some z) : ZeroOk Try.prog t z := by
  unfold zeroT at h
  refine bif_ok zero_Key (fun h => ?_) h -- 93
  refine bif_ok zero_Vl (fun h => ?_) h -- 42
  refine bif_ok zero_Msg (fun h => ?_) h -- 112
  refine bif_ok zero_Ent (fun h => ?_) h -- 97
  refine bif_ok zero_int (fun h => ?_) h
  refine bif_ok zero_byte (fun h => ?_) h
  refine bif_ok zero_u64 (fun h => ?_) h
  refine bif_ok zero_bool (fun h => ?_) h
  refine bif_ok zero_two (fun h => ?_) h
  refine bif_ok zero_slints (fun h => ?_) h -- 22
  refine bif_ok zero_slents (fun h => ?_) h
  cases h
section
variable {E : Env} {nt : Nat} {ops : Array Oper} {T : Nat → Option AV} {H : Hp} {d : Option Nat} {ty : TypeId} {pos : String} {af : Array Edge} {gd : Option (Nat × Bool)}
set_option maxRecDepth 100000 in
theorem z_bld {t n : Nat} {fs : List (Nat × Nat × Bool)} {l : List (Nat × Operand)} {vs : List (Nat × AV)} {zs out out' : List AV} (hz : zeroT t = some (.agg n zs)) (hd : dOk nt d = true) (hs : tabT.ti t = some (.st n fs)) (hv : partsA T l = some vs) (ho : fillA vs zs = some out) (hf : forceA out = some out') (hp : placesOk 0 zs fs = true) :
    OpOK Try.prog E nt ops ⟨d, .build t l.toArray, ty, pos, af, gd⟩ T H [] ⟨.agg n out', []⟩ := o_bld (zeroT_ok hz) rfl hd hs hv ho hf hp
set_option maxRecDepth 100000 in
theorem z_blda {t e : TypeId} {tn len es : Nat} {ea : Bool} {l : List (Nat × Operand)} {vs : List (Nat × AV)} {zs out out' : List AV} (hz : zeroT t = some (.arr tn es zs)) (hd : dOk nt d = true) (hs : tabT.ti t = some (.arr tn len es ea e)) (hv : partsA T l = some vs) (ho : fillA vs zs = some out) (hw : weakA out = some out')
    (hzs : zs.all (fun x => Nat.beq (sizeA x) es) = true) (hos : out.all (fun x => Nat.beq (sizeA x) es) = true) (hlen : out.length = zs.length) :
    OpOK Try.prog E nt ops ⟨d, .build t l.toArray, ty, pos, af, gd⟩ T H [] ⟨.arr tn es out', []⟩ := o_blda (zeroT_ok hz) rfl hd hs hv ho hw hzs hos hlen
set_option maxRecDepth 100000 in
theorem z_alloc {e : TypeId} {z : AV} {g : Nat} (hz : zeroT e = some z) (hd : dOk nt (some g) = true) (hg : H g = none) : OpOK Try.prog E nt ops ⟨some g, .alloc e, ty, pos, af, gd⟩ T H [] ⟨.ptr g 0 [], [(g, .var z)]⟩ := o_alloc (zeroT_ok hz) hd hg
set_option maxRecDepth 100000 in
theorem z_bsll {t e : TypeId} {es bytes len : Nat} {ea : Bool} {l : List (Nat × Operand)} {z : AV} {out ys : List AV} {g : Nat} (hs : tabT.ti t = some (.sl e (es + 1) bytes ea)) (hz : zeroT e = some z) (hzs : sizeA z = es + 1) (hd : dOk nt (some g) = true) (hv : seqA T (es + 1) 0 l = some out) (hg : H g = none)
    (hlen : out.length = len + 1) (hsmall : Nat.ble ((len + 1) * (es + 1)) 16777216 = true) (hw : weakA out = some ys) :
    OpOK Try.prog E nt ops ⟨some g, .buildSlice t (len + 1) l.toArray, ty, pos, af, gd⟩ T H [] ⟨.sl (some g) (es + 1) ys, [(g, .tail e (es + 1) (len + 1))]⟩ := o_bsll (zeroT_ok hz) hzs hd hs hv hg hlen hsmall hw
end
/-! ### entries built whole -/
section
variable {E : Env} {nt : Nat} {ops : Array Oper} {T : Nat → Option AV} {H : Hp} {d : Option Nat} {ty : TypeId} {pos : String} {af : Array Edge} {gd : Option (Nat × Bool)}
set_option maxRecDepth 100000 in
theorem e_bld {x y : Operand} {a : Key} {b : Vl} (hd : dOk nt d = true) (hx : evalO T x = some a.av) (hy : evalO T y = some b.av) : OpOK Try.prog E nt ops ⟨d, .build 97 #[(0, x), (1, y)], ty, pos, af, gd⟩ T H [] ⟨Ent.av ⟨a, b⟩, []⟩ :=
  z_bld (l := [(0, x), (1, y)]) (vs := [(0, a.av), (1, b.av)]) (zs := [Key.zero.av, Vl.zero.av]) (out := [a.av, b.av]) (out' := [a.av, b.av]) (n := 26) rfl hd rfl (by simp only [partsA, hx, hy]; rfl) rfl rfl rfl
set_option maxRecDepth 100000 in
theorem e_bldk {x : Operand} {a : Key} (hd : dOk nt d = true) (hx : evalO T x = some a.av) : OpOK Try.prog E nt ops ⟨d, .build 97 #[(0, x)], ty, pos, af, gd⟩ T H [] ⟨Ent.av ⟨a, Vl.zero⟩, []⟩ :=
  z_bld (l := [(0, x)]) (vs := [(0, a.av)]) (zs := [Key.zero.av, Vl.zero.av]) (out := [a.av, Vl.zero.av]) (out' := [a.av, Vl.zero.av]) (n := 26) rfl hd rfl (by simp only [partsA, hx]; rfl) rfl rfl rfl
theorem o_quo2 {t t' : TypeId} {x y : Operand} {a : Nat} (hd : dOk nt d = true) (hx : evalO T x = some (.v (.int .i64 (a : Nat)))) (hy : evalO T y = some (.v (.int .i64 2))) (h : a ≤ 9223372036854775807) : OpOK Try.prog E nt ops ⟨d, .binOp .quo t x y t', ty, pos, af, gd⟩ T H [] ⟨.v (.int .i64 ((a / 2 : Nat) : Int)), []⟩ := by
  have := o_quo (E := E) (ops := ops) (H := H) (ty := ty) (pos := pos) (af := af) (gd := gd) (t := t) (t' := t') hd hx hy (by omega)
  rwa [show ((a : Nat) : Int) / 2 = ((a / 2 : Nat) : Int) from by omega] at this
end
end Go.Proofs.Ytphojngdgmnpaaa

namespace Go.Proofs.Ytphojngdgmnpaaa
open Go Go.RowKit
set_option linter.unusedVariables false
set_option linter.unusedSimpArgs false
set_option maxRecDepth 100000

/-- a pointer to a variable that stays as it is -/
theorem Go2.ref {E : Env} {nt : Nat} {T : List (Nat × AV)} {H : List (Nat × Bx)} (s g : Nat) {x : AV} (hs : look s T = some (.ptr g 0 [])) (hg : look g H = some (.froz x)) (hd : dataA x = true) : Go2 E nt ⟨T, H⟩ ⟨(s, .ref x) :: T, H⟩ := fun B a w r => by
  refine ⟨B, r.nt, r.df, fun s' y hx => ?_, r.box, r.non, r.inj, r.left, r.keep⟩
  have eT : St.t ⟨(s, AV.ref x) :: T, H⟩ = upd (St.t ⟨T, H⟩) s (.ref x) := look_cons _ _ _
  rw [eT] at hx
  by_cases h : s' = s
  · subst h
    rw [upd_same] at hx
    injection hx with hx
    subst hx
    obtain ⟨v, h1, h2⟩ := r.tmp s' _ hs
    refine ⟨v, h1, ?_⟩
    have h3 := Rdv_one (by simp) h2 rfl
    simp only [Rd] at h3
    obtain ⟨_, b, k1, k4⟩ := h3
    injection k4 with k4
    subst k4
    obtain ⟨b', cs, q1, q2, q3, q4⟩ := r.box g _ hg
    rw [k1] at q1; injection q1 with q1; subst q1
    rw [Rdv_not (by simp)]
    exact ⟨[_], by simp only [Rd]; exact ⟨b, 0, cs, rfl, q2, q3, Rd_data x hd q4⟩, rfl⟩
  · rw [upd_ne _ _ h] at hx
    exact r.tmp s' y hx
theorem Rdp_append {U : Uns} {w : World} {B : Blk} {H : Hp} : ∀ {xs ys : List AV} {us vs : List Value}, Rdp U w xs B H us → Rdp U w ys B H vs → Rdp U w (xs ++ ys) B H (us ++ vs)
  | [], ys, us, vs, h1, h2 => by
    simp only [Rdp] at h1
    subst h1
    exact h2
  | x :: xs, ys, us, vs, h1, h2 => by
    simp only [Rdp] at h1
    obtain ⟨c, us', rfl, k1, k2⟩ := h1
    simp only [List.cons_append, Rdp]
    exact ⟨c, us' ++ vs, rfl, k1, Rdp_append k2 h2⟩
section
variable {P : Program} {E : Env} {nt : Nat} {ops : Array Oper} {T : Nat → Option AV} {H : Hp} {d : Option Nat} {ty : TypeId} {pos : String} {af : Array Edge} {gd : Option (Nat × Bool)}
theorem args_rdp {E : Env} {nt : Nat} {B : Blk} {T' : Nat → Option AV} {H' : Hp} {a : Act} {w : World} (r : Rel E nt B T' H' a w) : ∀ (l : List Operand) (zs : List AV), l.map (evalO T') = zs.map some → (∀ z ∈ zs, ∀ us, z ≠ .tup us) → Rdp (unst E B H') w zs B H' (l.map a.eval) := by
  intro l
  induction l with
  | nil =>
    intro zs h _
    have : zs = [] := by simpa using h.symm
    subst this
    simp [Rdp]
  | cons o l ih =>
    intro zs h hn
    cases zs with
    | nil => simp at h
    | cons z zs =>
      simp only [List.map_cons, List.cons.injEq] at h
      have ho := r.eval h.1
      rw [Rdv_not (hn z List.mem_cons_self)] at ho
      obtain ⟨c, h1, h2⟩ := ho
      simp only [List.map_cons, Rdp]
      exact ⟨c, _, by rw [h2], h1, ih zs h.2 (fun z hz => hn z (List.mem_cons_of_mem _ hz))⟩
theorem map_agree {T T' : Nat → Option AV} {l : List Operand} {zs : List AV} (h : l.map (evalO T) = zs.map some) (ht : ∀ y ∈ l, evalO T' y = evalO T y) : l.map (evalO T') = zs.map some := by
  rw [← h]
  exact List.map_congr_left ht
theorem ok_mkfn {f : FuncId} {l : List Operand} {xs : List AV} (hd : dOk nt d = true) (hx : l.map (evalO T) = xs.map some) (hnt : xs.all notTup = true) :
    OpOK P E nt ops ⟨d, .makeFunc (.func f) #[] l.toArray, ty, pos, af, gd⟩ T H [] ⟨.fn (.func f) [] xs, []⟩ :=
  ok_val hd fun B T' H' a w r ht hh => by
    have h1 := args_rdp r l xs (map_agree hx (fun y hy => ht y (by simp [Op.operands]; exact hy))) (fun z hz => notTup_ne (List.all_eq_true.1 hnt z hz))
    refine ⟨.func (.func f) #[] (l.map a.eval).toArray, ?_, ?_⟩
    · have hm : Array.map a.eval l.toArray = (l.map a.eval).toArray := by simp
      simp [execOp, Instr.makeFunc, hm]
    · rw [Rdv_not (by simp)]
      refine ⟨[_], ?_, rfl⟩
      simp only [Rd]
      exact ⟨[], _, rfl, by simp [Rdp], h1⟩
theorem ok_callv {f : FuncId} {fn : Func} {x : Operand} {l : List Operand} {ats : Array TypeId} {caps xs ys : List AV} {y : AV} (hd : dOk nt d = true) (hf : P.funcs[f]? = some fn) (hb : fn.body.isSome = true) (hnm : (fn.name == "runtime.NumGoroutine") = false)
    (hxf : evalO T x = some (.fn (.func f) [] caps)) (hcd : dataL caps = true) (hx : l.map (evalO T) = xs.map some) (hc : AFn P f (ys ++ caps) y) (hw : ∀ H', WkL H' xs ys) (hnt : xs.all notTup = true) : OpOK P E nt ops ⟨d, .call { callee := .value x, args := l.toArray, argTypes := ats }, ty, pos, af, gd⟩ T H [] ⟨y, []⟩ := by
  intro T' H' ht _ _ B a w r K Q hK
  have hxs := args_rdp r l xs (map_agree hx (fun y hy => agree_op ht (by simp [Op.operands, Call.operands]; exact .inr hy))) (fun z hz => notTup_ne (List.all_eq_true.1 hnt z hz))
  have hys := (hw H').rdp hxs
  have hfv := Rdv_one (by simp) (r.eval ((agree_op ht (x := x) (by simp [Op.operands, Call.operands])).trans hxf)) rfl
  simp only [Rd] at hfv
  obtain ⟨c1, c2, e1, e2, e3⟩ := hfv
  simp only [Rdp] at e2
  subst e2
  injection e1 with e1
  have h2 := hc _ w _ (Rdp_append hys (Rdp_data caps hcd e3))
  unfold Oper.wp
  have he : (execOp a.eval ⟨d, .call { callee := .value x, args := l.toArray, argTypes := ats }, ty, pos, af, gd⟩).run P w = .ok (.enter f (l.map a.eval ++ c2).toArray) w := by
    have hb' : fn.body ≠ none := by cases h : fn.body <;> simp_all
    have hn' : fn.name ≠ "runtime.NumGoroutine" := by simpa using hnm
    have ha : (l.map a.eval ++ c2).toArray = (l.toArray.map a.eval) ++ c2.toArray := by apply Array.ext'; simp
    rw [ha]
    simp [execOp, resolve, Deferred.ofValue, e1, invoke, callFunc, hf, hn', hb']
  rw [he]
  refine Calls.mono h2 ?_
  rintro e w' ⟨v, rfl, h3, h4⟩
  exact hK B _ w' ((r.ext h4).put hd (Rdv_free (Rdv_sub (fun b o h => ⟨r.unst_lt h, h⟩) h3)))
theorem ok_shr {t t' : TypeId} {x y : Operand} {k k' : IntKind} {a b c : Int} (hd : dOk nt d = true) (hx : evalO T x = some (.v (.int k a))) (hy : evalO T y = some (.v (.int k' b))) (h0 : 0 ≤ b) (hc : a.fdiv (2 ^ min b.toNat k.bits) = c) : OpOK P E nt ops ⟨d, .binOp .shr t x y t', ty, pos, af, gd⟩ T H [] ⟨.v (.int k c), []⟩ :=
  ok_bin hd hx hy (fun w => by subst hc; simp [eqGuard, binOp, Op.shift, show ¬ b < 0 by omega]) rfl
end
section
variable {E : Env} {nt : Nat} {ops : Array Oper} {T : Nat → Option AV} {H : Hp} {d : Option Nat} {ty : TypeId} {pos : String} {af : Array Edge} {gd : Option (Nat × Bool)}
theorem o_mkfn {f : FuncId} {l : List Operand} {xs : List AV} (hd : dOk nt d = true) (hx : argsA T l = some xs) (hnt : xs.all notTup = true) :
    OpOK Try.prog E nt ops ⟨d, .makeFunc (.func f) #[] l.toArray, ty, pos, af, gd⟩ T H [] ⟨.fn (.func f) [] xs, []⟩ := ok_mkfn hd (argsA_map hx) hnt
theorem o_callv {f : FuncId} {x : Operand} {l : List Operand} {ats : Array TypeId} {caps xs ys : List AV} {y : AV} (hd : dOk nt d = true) (hxf : evalO T x = some (.fn (.func f) [] caps)) (hcd : dataL caps = true) (hx : argsA T l = some xs) (hw : weakA xs = some ys) (hnt : xs.all notTup = true) (hc : ACall f (ys ++ caps) y) :
    OpOK Try.prog E nt ops ⟨d, .call { callee := .value x, args := l.toArray, argTypes := ats }, ty, pos, af, gd⟩ T H [] ⟨y, []⟩ := by
  obtain ⟨fn, h1, h2, h3, h4⟩ := hc
  exact ok_callv hd h1 h2 h3 hxf hcd (argsA_map hx) h4 (fun _ => weakA_wkl _ _ hw) hnt
/-- half of a number, by a shift -/
theorem o_shr1 {t t' : TypeId} {x y : Operand} {a : Nat} (hd : dOk nt d = true) (hx : evalO T x = some (.v (.int .u64 (a : Nat)))) (hy : evalO T y = some (.v (.int .u64 1))) : OpOK Try.prog E nt ops ⟨d, .binOp .shr t x y t', ty, pos, af, gd⟩ T H [] ⟨.v (.int .u64 ((a / 2 : Nat) : Int)), []⟩ :=
  ok_shr hd hx hy (by omega) (by
    rw [Int.fdiv_eq_ediv_of_nonneg _ (by decide)]
    show (a : Int) / 2 ^ min 1 64 = _
    norm_cast)
theorem o_cviu {s t : TypeId} {x : Operand} {n : Nat} (hs : ∃ u, Try.prog.underlying s = some u) (ht : Try.prog.underlying t = some (.int .u64)) (hd : dOk nt d = true) (hx : evalO T x = some (.v (.int .i64 (n : Nat)))) (hn : n ≤ 9223372036854775807) : OpOK Try.prog E nt ops ⟨d, .convert s t x, ty, pos, af, gd⟩ T H [] ⟨.v (.int .u64 (n : Nat)), []⟩ :=
  ok_conv_i hs ht hd hx (by simp [IntKind.wrap, IntKind.bits, IntKind.signed]; omega)
theorem o_cvui {s t : TypeId} {x : Operand} {n : Nat} (hs : ∃ u, Try.prog.underlying s = some u) (ht : Try.prog.underlying t = some (.int .i64)) (hd : dOk nt d = true) (hx : evalO T x = some (.v (.int .u64 (n : Nat)))) (hn : n ≤ 9223372036854775807) : OpOK Try.prog E nt ops ⟨d, .convert s t x, ty, pos, af, gd⟩ T H [] ⟨.v (.int .i64 (n : Nat)), []⟩ :=
  ok_conv_i hs ht hd hx (IntWalk.i64_in _ (by omega))
end
end Go.Proofs.Ytphojngdgmnpaaa

namespace Go.Proofs.Ytphojngdgmnpaaa
open Go Go.RowKit
set_option linter.unusedVariables false
set_option linter.unusedSimpArgs false
set_option maxRecDepth 100000
set_option linter.unusedSectionVars false

abbrev hL (l : List (Nat × Bx)) : Hp := fun k => look k l
/-- f, handed args, with the boxes H1 of its caller's in hand: it returns r, and leaves the boxes H2 (new ones among them) -/
def CFnX (P : Program) (X : Env → Prop) (f : FuncId) (args : List AV) (H1 : List (Nat × Bx)) (r : AV) (H2 : List (Nat × Bx)) : Prop :=
  ∀ (E : Env) (B : Blk) (w : World) (vs : List Value), X E → E.df = [] → Mem E B (hL H1) w → Rdp (unst E B (hL H1)) w args B (hL H1) vs →
    Calls P f vs.toArray w fun e w' => ∃ v B2, e = .returned v ∧ Mem E B2 (hL H2) w' ∧ Rdv (unst E B2 (hL H2)) w' B2 (hL H2) r v
abbrev CFn (P : Program) (f : FuncId) (args : List AV) (H1 : List (Nat × Bx)) (r : AV) (H2 : List (Nat × Bx)) : Prop := CFnX P (fun _ => True) f args H1 r H2
/-- fewer boxes -/
theorem Mem.drop {E : Env} {B : Blk} {H H' : Hp} {w : World} (m : Mem E B H w) (hb : ∀ g bx, H' g = some bx → H g = some bx ∧ ∀ j ∈ boxNames bx, (H' j).isSome = true) (hk : ∀ g, H' g = none → E.eb g = none) :
    Mem E (fun g => if (H' g).isSome then B g else none) H' w ∧ ∀ (x : AV) {c : List Value}, (∀ g ∈ namesA x, (H' g).isSome = true) → Rd (unst E B H) w x B H c → Rd (unst E (fun g => if (H' g).isSome then B g else none) H') w x (fun g => if (H' g).isSome then B g else none) H' c := by
  let B' : Blk := fun g => if (H' g).isSome then B g else none
  have eB : ∀ g, (H' g).isSome = true → H' g = H g ∧ B' g = B g := by
    intro g hg
    refine ⟨?_, by simp [B', hg]⟩
    cases h : H' g with
    | none => rw [h] at hg; cases hg
    | some bx => exact ((hb g bx h).1).symm
  have hun : ∀ b o, unst E B' H' b o → unst E B H b o := by
    rintro b o (h | ⟨g, h1, h2⟩)
    · exact .inl h
    · refine .inr ⟨g, ?_, ?_⟩
      · simp only [B'] at h1
        split at h1
        · exact h1
        · cases h1
      · cases hg : H' g with
        | none => rw [hg] at h2; exact h2.elim
        | some bx => rw [(hb g bx hg).1]; rw [hg] at h2; exact h2
  have sub : ∀ (x : AV) {cs : List Value}, (∀ g ∈ namesA x, (H' g).isSome = true) → Rd (unst E B H) w x B H cs → Rd (unst E B' H') w x B' H' cs := fun x cs hx h =>
    Rd_names x (fun g hg => (eB g (hx g hg))) (Rd_go (Evo.refl _ w) (fun b o _ h => hun b o h) x ⟨fun _ _ _ h => h, fun _ h => h, fun _ _ _ _ _ h => h, fun _ _ _ _ _ h => h⟩ h)
  refine ⟨⟨fun g bx hg => ?_, fun g hg => by simp [hg], fun g g' b h1 h2 h3 h4 => ?_, m.left, hk⟩, sub⟩
  · obtain ⟨h1, h2⟩ := hb g bx hg
    have h3 := m.box g bx h1
    have e2 := (eB g (by rw [hg]; rfl)).2
    cases bx with
    | var x =>
      obtain ⟨b, cs, t, k1, k2, k3, k4⟩ := h3
      exact ⟨b, cs, t, e2.trans k1, k2, sub x (fun g hg => h2 g hg) k3, k4⟩
    | froz x =>
      obtain ⟨b, cs, k1, k2, k3, k4⟩ := h3
      exact ⟨b, cs, e2.trans k1, k2, fun o h5 h6 h7 => k3 o h5 h6 (hun b o h7), sub x (fun g hg => h2 g hg) k4⟩
    | tail e n k =>
      obtain ⟨k0, kT, k1⟩ := h3
      refine ⟨k0, ?_⟩
      show Tie E g k (B' g) ∧ (B' g = none ∧ k = 0 ∨ ∃ b cur cap, B' g = some b ∧ _)
      rw [e2]
      exact ⟨kT, k1⟩
    | own e n xs =>
      obtain ⟨k0, kT, k1⟩ := h3
      refine ⟨k0, ?_⟩
      show Tie E g xs.length (B' g) ∧ (B' g = none ∧ xs = [] ∨ ∃ b cur cap c, B' g = some b ∧ _)
      rw [e2]
      refine ⟨kT, k1.imp id ?_⟩
      rintro ⟨b, cur, cap, c, m1, m2, m3, m4, m5, m6, m7, m8⟩
      exact ⟨b, cur, cap, c, m1, m2, m3, m4, m5, m6, Rdu_go (Evo.refl _ w) (fun b o _ h => hun b o h) n xs (Pic.refl0 _ _) m7, m8⟩
  · have hl : ∀ j, live (H' j) = true → live (H j) = true ∧ B' j = B j := by
      intro j hj
      cases hh : H' j with
      | none => rw [hh] at hj; cases hj
      | some bx => exact ⟨by rw [(hb j bx hh).1, ← hh]; exact hj, (eB j (by rw [hh]; rfl)).2⟩
    obtain ⟨k1, k2⟩ := hl g h1
    obtain ⟨k3, k4⟩ := hl g' h2
    exact m.inj g g' b k1 k3 (k2 ▸ h3) (k4 ▸ h4)

/-! ### a contract out of a walk -/
/-- what a result reads as when the function is left: plain data, or with the boxes that are left -/
def RCv (H : Hp) (H2 : List (Nat × Bx)) (x y : AV) : Prop := (x = y ∧ (namesA y).all (fun g => (look g H2).isSome) = true) ∨ Wk H x y
def Res1C (P : Program) (S : St) (H2 : List (Nat × Bx)) : ResultVar → AV → Prop
  | .tmp t, y => ∃ x, S.t t = some x ∧ (∀ xs, x ≠ .tup xs) ∧ RCv S.h H2 x y
  | .cell a t, y => ∃ g x, S.t a = some (.ptr g 0 []) ∧ S.h g = some (.var x) ∧ TyOf P t (isAggA x) (sizeA x) ∧ RCv S.h H2 x y
def ResLC (P : Program) (S : St) (H2 : List (Nat × Bx)) : List ResultVar → List AV → Prop
  | [], [] => True
  | r :: rs, y :: ys => Res1C P S H2 r y ∧ ResLC P S H2 rs ys
  | [], _ :: _ => False
  | _ :: _, [] => False
/-- what is kept of the boxes -/
def LeaveOk (H : List (Nat × Bx)) (H2 : List (Nat × Bx)) : Prop := SubH H H2 H2 ∧ SubK H H2 = true
section
variable {P : Program} {E : Env} {nt : Nat} {B : Blk} {S : St} {a : Act} {w : World} {H2 : List (Nat × Bx)}
abbrev dropB (B : Blk) (H' : Hp) : Blk := fun g => if (H' g).isSome then B g else none
theorem LeaveOk.mem {H : List (Nat × Bx)} (h : LeaveOk H H2) (m : Mem E B (hL H) w) : Mem E (dropB B (hL H2)) (hL H2) w ∧ ∀ (x : AV) {c : List Value}, (∀ g ∈ namesA x, (hL H2 g).isSome = true) → Rd (unst E B (hL H)) w x B (hL H) c → Rd (unst E (dropB B (hL H2)) (hL H2)) w x (dropB B (hL H2)) (hL H2) c := by
  obtain ⟨h1, h2⟩ := h
  refine m.drop (fun g bx hg => ?_) fun g hg => ?_
  · obtain ⟨k1, k2⟩ := h1.all _ (look_mem hg)
    rw [List.all_eq_true] at k2
    exact ⟨k1, k2⟩
  · cases hh : hL H g with
    | none => exact m.keep g hh
    | some bx =>
      unfold SubK at h2
      rw [List.all_eq_true] at h2
      have h1 := h2 _ (look_mem hh)
      rw [Bool.or_eq_true] at h1
      rcases h1 with h1 | h1
      · exact E.lo g (by simpa using h1)
      · rw [show look g H2 = none from hg] at h1; cases h1
theorem RCv.run (hl : LeaveOk S.H H2) (m : Mem E B S.h w) {x y : AV} (h : RCv S.h H2 x y) {c : List Value} (hr : Rd (unst E B S.h) w x B S.h c) : Rd (unst E (dropB B (hL H2)) (hL H2)) w y (dropB B (hL H2)) (hL H2) c ∧ pack x c = pack y c := by
  rcases h with ⟨rfl, h⟩ | h
  · rw [List.all_eq_true] at h
    exact ⟨(hl.mem m).2 _ h hr, rfl⟩
  · obtain ⟨h1, h2⟩ := h _ _ _ _ hr
    refine ⟨?_, h2⟩
    refine Rd_free _ (Rd_go (Evo.refl _ w) (fun b o _ hu => ?_) _ (Pic.refl0 _ _) h1)
    rcases hu with hu | ⟨g, k1, k2⟩
    · exact .inl hu
    · obtain ⟨bx, q1, q2, q3⟩ := un_live k2
      simp only [dropB, q1, Option.isSome_some, if_true] at k1
      have := (hl.1.all _ (look_mem q1)).1
      exact unst_box (H := S.h) this q2 k1 q3
theorem res1C_run (hl : LeaveOk S.H H2) (r : Rel E nt B S.t S.h a w) {v : ResultVar} {y : AV} (h : Res1C P S H2 v y) : ∃ c, (resOf a.tmps v).run P w = .ok (pack y c) w ∧ Rd (unst E (dropB B (hL H2)) (hL H2)) w y (dropB B (hL H2)) (hL H2) c := by
  cases v with
  | tmp t =>
    obtain ⟨x, h1, h2, h3⟩ := h
    obtain ⟨u, h4, h5⟩ := r.tmp t x h1
    rw [Rdv_not h2] at h5
    obtain ⟨c, h6, rfl⟩ := h5
    obtain ⟨h7, h8⟩ := h3.run hl r.mem h6
    refine ⟨c, ?_, h7⟩
    rw [← h8]
    have : a.tmps.getD t undef = pack x c := by simp [Array.getD_eq_getD_getElem?, h4]
    simp only [resOf, this]; rfl
  | cell ad t =>
    obtain ⟨g, x, h1, h2, h3, h4⟩ := h
    obtain ⟨u, h5, h6⟩ := r.tmp ad _ h1
    rw [Rdv_not (by simp)] at h6
    obtain ⟨c, h7, rfl⟩ := h6
    simp only [Rd] at h7
    obtain ⟨_, b, h8, rfl⟩ := h7
    obtain ⟨b', cs, ty, k1, k2, k3, _⟩ := r.box g _ h2
    rw [h8] at k1
    injection k1 with k1
    subst k1
    have hl' := Rd_len k3
    have hrow : row? w b 0 (sizeA x) = some cs.toArray := by rw [row_block k2]; exact rowOf_full _ _ (by simpa using hl')
    obtain ⟨k4, k5⟩ := h4.run hl r.mem k3
    refine ⟨cs, ?_, k4⟩
    have hv := run_loadVar_of h3 hrow (by intro h; cases x <;> simp_all [isAggA, sizeA])
    have : a.tmps.getD ad undef = .pointer (some ⟨b, 0, none⟩) := by simp [Array.getD_eq_getD_getElem?, h5, pack]
    simp only [resOf, this, asAddr, Sem.run_bind, Sem.run_pure, Result.andThen_ok, hv]
    rw [← k5]
    cases hx : isAggA x
    · have he := (Rd_pack k3).2 hx
      obtain ⟨v, rfl⟩ : ∃ v, cs = [v] := ⟨_, he⟩
      simp at he
      simp [← he]
    · simp [(Rd_pack k3).1 hx]
theorem resLC_run (hl : LeaveOk S.H H2) (r : Rel E nt B S.t S.h a w) : ∀ (vs : List ResultVar) (ys : List AV), ResLC P S H2 vs ys → ∃ us : List Value, (vs.mapM (resOf a.tmps)).run P w = .ok us w ∧ us.length = vs.length ∧ Rdp (unst E (dropB B (hL H2)) (hL H2)) w ys (dropB B (hL H2)) (hL H2) us
  | [], [], _ => ⟨[], rfl, rfl, by simp [Rdp]⟩
  | v :: vs, y :: ys, h => by
    obtain ⟨h1, h2⟩ := h
    obtain ⟨c, k1, k2⟩ := res1C_run hl r h1
    obtain ⟨us, k3, k4, k5⟩ := resLC_run hl r vs ys h2
    refine ⟨pack y c :: us, ?_, by simp [k4], by simp only [Rdp]; exact ⟨c, us, rfl, k2, k5⟩⟩
    simp [List.mapM_cons, k1, k3]
  | [], _ :: _, h => h.elim
  | _ :: _, [], h => h.elim
/-- the results, as one value -/
theorem resultsC {fn : Func} {rv : List ResultVar} (hrv : fn.results.toList = rv) (hl : LeaveOk S.H H2) (r : Rel E nt B S.t S.h a w) {ys : List AV} (h : ResLC P S H2 rv ys) : ∃ v, (results fn a.tmps).run P w = .ok v w ∧ Rdv (unst E (dropB B (hL H2)) (hL H2)) w (dropB B (hL H2)) (hL H2) (resA ys) v := by
  subst hrv
  obtain ⟨us, k1, k2, k3⟩ := resLC_run hl r _ _ h
  have hm := mapM_arr _ _ _ _ _ k1
  rw [Array.toArray_toList] at hm
  rw [results_eq, Sem.run_bind, hm]
  obtain ⟨m1, m2⟩ := Rdp_get k3
  by_cases h1 : us.length = 1
  · obtain ⟨u, rfl⟩ := List.length_eq_one_iff.1 h1
    obtain ⟨y, rfl⟩ := List.length_eq_one_iff.1 (m1.trans h1)
    refine ⟨u, by simp, ?_⟩
    obtain ⟨v, h3, c', h4, h5⟩ := m2 0 y rfl
    simp at h3
    subst h3
    show Rdv _ w _ _ y u
    rw [Rdv_not (Rd_notup h4)]
    exact ⟨c', h4, h5⟩
  · refine ⟨.tuple us.toArray, by simp [h1], ?_⟩
    have hr : resA ys = .tup ys := by
      match ys, m1 with
      | [], _ => rfl
      | [y], m1 => exact absurd m1.symm h1
      | y :: z :: l, _ => rfl
    rw [hr, Rdv_tup]
    exact ⟨us, rfl, k3⟩
end
theorem frame_in {E : Env} {B : Blk} {H1 : List (Nat × Bx)} {w : World} {vs : List Value} {args : List AV} {nt : Nat} (hdf : E.df = []) (m : Mem E B (hL H1) w) (hvs : Rdp (unst E B (hL H1)) w args B (hL H1) vs) (hn : args.length ≤ nt) :
    Rel E nt B (St.t ⟨bindsA 0 args, H1⟩) (St.h ⟨bindsA 0 args, H1⟩) { tmps := vs.toArray ++ Array.replicate (nt - vs.toArray.size) undef, defers := [] } w := by
  obtain ⟨hl, hg⟩ := Rdp_get hvs
  refine m.rel (by simp; omega) hdf.symm fun s x hs => ?_
  have hs' : look s (bindsA 0 args) = some x := hs
  rw [bindsA_look] at hs'
  simp only [Nat.zero_le, if_true, Nat.sub_zero] at hs'
  obtain ⟨v, h1, c', h2, h3⟩ := hg s x hs'
  have hsl : s < vs.length := (List.getElem?_eq_some_iff.1 h1).1
  refine ⟨v, ?_, ?_⟩
  · rw [Array.getElem?_append_left (by simpa using hsl)]
    simpa using h1
  · rw [Rdv_not (Rd_notup h2)]; exact ⟨c', h2, h3⟩
theorem CFn_intro {P : Program} {X : Env → Prop} {f : FuncId} {fn : Func} {c : Code} {args : List AV} {H1 H2 : List (Nat × Bx)} {r : AV} {nt : Nat} {rv : List ResultVar} (hf : P.funcs[f]? = some fn) (hb : fn.body = some c) (hnt : fn.ntmps = nt) (hrv : fn.results = rv.toArray) (hn : args.length ≤ nt) (ys : List AV) (hy : resA ys = r)
    (h : ∀ E, X E → AW P E nt c ⟨bindsA 0 args, H1⟩ (fun e S' => (e = .normal ∨ e = .ret) ∧ LeaveOk S'.H H2 ∧ ResLC P S' H2 rv ys)) : CFnX P X f args H1 r H2 := by
  have hrv' : fn.results.toList = rv := by rw [hrv]
  subst hnt
  intro E B w vs hX hdf m hvs
  subst hy
  refine calls_of_wp hf hb (wp_mono (h E hX B _ w (frame_in hdf m hvs hn)) ?_)
  rintro e a' w' ⟨B', S', r', he, hl, hres⟩
  obtain ⟨v, k1, k2⟩ := resultsC hrv' hl r' hres
  have hd : a'.defers = [] := r'.df.trans hdf
  rcases he with rfl | rfl
  · exact ⟨hd, v, k1, v, _, rfl, (hl.mem r'.mem).1, k2⟩
  · exact ⟨hd, v, k1, v, _, rfl, (hl.mem r'.mem).1, k2⟩
/-! ### a call -/
def NamesOk (σ : Nat → Nat) (H : Hp) (H1 : List (Nat × Bx)) : List (Nat × Bx) → Prop
  | [] => True
  | (c, bx) :: l => H (σ c) = some (renB σ bx) ∧ (liveB bx && (boxNames bx).all (fun g => (look g H1).isSome) && Nat.ble 1000 c) = true ∧ NamesOk σ H H1 l
def kindBb : Bx → Bx → Bool
  | .var _, .var _ => true
  | .tail e n _, .tail e' n' _ => Nat.beq e' e && Nat.beq n' n
  | .own e n _, .own e' n' _ => Nat.beq e' e && Nat.beq n' n
  | _, _ => false
theorem kindBb_ok {x y : Bx} (h : kindBb x y = true) : kindB x y := by
  cases x <;> cases y <;> simp only [kindBb, Bool.and_eq_true, Bool.false_eq_true] at h <;> first | trivial | exact ⟨Nat.eq_of_beq_eq_true h.1, Nat.eq_of_beq_eq_true h.2⟩
def notIn (n : Nat) : List Nat → Bool
  | [] => true
  | m :: l => !Nat.beq m n && notIn n l
def nodupB : List Nat → Bool
  | [] => true
  | n :: l => notIn n l && nodupB l
/-- new boxes get names that the caller does not have -/
def FreshOk (σ : Nat → Nat) (H : Hp) (H1 : List (Nat × Bx)) : List (Nat × Bx) → Prop
  | [] => True
  | (c, bx) :: l => (match look c H1 with | some b1 => kindBb b1 bx = true | none => H (σ c) = none) ∧ FreshOk σ H H1 l
def OutB (σ : Nat → Nat) (H1 H2 : List (Nat × Bx)) : Bool :=
  (H2.all fun p => liveB p.2 && (boxNames p.2).all (fun g => (look g H2).isSome)) && (H1.all fun p => (look p.1 H2).isSome) && nodupB (H2.map fun p => σ p.1)
theorem notIn_ok {n : Nat} : ∀ {l : List Nat}, notIn n l = true → n ∉ l
  | [], _ => by simp
  | m :: l, h => by
    simp only [notIn, Bool.and_eq_true, Bool.not_eq_true'] at h
    intro hm
    rcases List.mem_cons.1 hm with rfl | hm
    · simp at h
    · exact notIn_ok h.2 hm
theorem nodup_look {σ : Nat → Nat} : ∀ {l : List (Nat × Bx)}, nodupB (l.map fun p => σ p.1) = true → ∀ p ∈ l, ∀ q ∈ l, σ p.1 = σ q.1 → p = q
  | [], _, p, h, _, _, _ => by cases h
  | x :: l, h, p, hp, q, hq, e => by
    simp only [List.map_cons, nodupB, Bool.and_eq_true] at h
    have hn := notIn_ok h.1
    rcases List.mem_cons.1 hp with rfl | hp'
    · rcases List.mem_cons.1 hq with rfl | hq'
      · rfl
      · exact absurd (List.mem_map.2 ⟨q, hq', e.symm⟩) hn
    · rcases List.mem_cons.1 hq with rfl | hq'
      · exact absurd (List.mem_map.2 ⟨p, hp', e⟩) hn
      · exact nodup_look h.2 p hp' q hq' e
theorem NamesOk.all {σ : Nat → Nat} {H : Hp} {H1 : List (Nat × Bx)} : ∀ {l : List (Nat × Bx)}, NamesOk σ H H1 l → ∀ p ∈ l, H (σ p.1) = some (renB σ p.2) ∧ liveB p.2 = true ∧ (∀ g ∈ boxNames p.2, (look g H1).isSome = true) ∧ 1000 ≤ p.1
  | [], _, p, h => by cases h
  | (c, bx) :: l, ⟨h1, h2, h3⟩, p, h => by
    rcases List.mem_cons.1 h with rfl | h
    · simp only [Bool.and_eq_true, List.all_eq_true] at h2
      exact ⟨h1, h2.1.1, h2.1.2, Nat.le_of_ble_eq_true h2.2⟩
    · exact h3.all p h
theorem FreshOk.all {σ : Nat → Nat} {H : Hp} {H1 : List (Nat × Bx)} : ∀ {l : List (Nat × Bx)}, FreshOk σ H H1 l → ∀ p ∈ l, (match look p.1 H1 with | some b1 => kindBb b1 p.2 = true | none => H (σ p.1) = none)
  | [], _, p, h => by cases h
  | (c, bx) :: l, ⟨h1, h2⟩, p, h => by
    rcases List.mem_cons.1 h with rfl | h
    · exact h1
    · exact h2.all p h
def outW (σ : Nat → Nat) (H2 : List (Nat × Bx)) : List (Nat × Bx) := H2.map fun p => (σ p.1, renB σ p.2)
def outBlk (σ : Nat → Nat) (H2 : List (Nat × Bx)) (B B2 : Blk) : Blk := fun j => match H2.find? (fun p => Nat.beq (σ p.1) j) with | some p => B2 p.1 | none => B j
theorem updH_out {σ : Nat → Nat} {H : Hp} : ∀ {l : List (Nat × Bx)} (j : Nat), updH H (outW σ l) j = match l.find? (fun p => Nat.beq (σ p.1) j) with | some p => some (renB σ p.2) | none => H j
  | [], j => rfl
  | p :: l, j => by
    simp only [outW, List.map_cons, updH, upd, List.find?_cons]
    by_cases h : j = σ p.1
    · subst h; simp
    · have hb : Nat.beq (σ p.1) j = false := by
        cases hb : Nat.beq (σ p.1) j
        · rfl
        · exact absurd (Nat.eq_of_beq_eq_true hb).symm h
      rw [if_neg h, hb]
      exact updH_out j
section
variable {E : Env} {B B2 : Blk} {H : Hp} {w : World} {σ : Nat → Nat} {H1 H2 : List (Nat × Bx)}
theorem names_of (h : NamesOk σ H H1 H1) (hi : nodupB (H1.map fun p => σ p.1) = true) : Names σ H (hL H1) := by
  refine ⟨fun c bx hc => ?_, fun c c' h1 h2 e => ?_, fun c hc => ?_⟩
  · obtain ⟨k1, k2, k3, _⟩ := h.all _ (look_mem hc)
    exact ⟨k1, k2, k3⟩
  · cases e1 : hL H1 c with
    | none => rw [e1] at h1; cases h1
    | some b1 =>
      cases e2 : hL H1 c' with
      | none => rw [e2] at h2; cases h2
      | some b2 => exact congrArg Prod.fst (nodup_look hi _ (look_mem e1) _ (look_mem e2) e)
  · cases e1 : hL H1 c with
    | none => rfl
    | some b1 => have := (h.all _ (look_mem e1)).2.2.2; simp only at this; omega
theorem find_look (ho : OutB σ H1 H2 = true) (j : Nat) : (∃ c bx, look c H2 = some bx ∧ σ c = j ∧ H2.find? (fun p => Nat.beq (σ p.1) j) = some (c, bx)) ∨ ((∀ c, (look c H2).isSome = true → σ c ≠ j) ∧ H2.find? (fun p => Nat.beq (σ p.1) j) = none) := by
  simp only [OutB, Bool.and_eq_true] at ho
  cases hf : H2.find? (fun p => Nat.beq (σ p.1) j) with
  | none =>
    refine .inr ⟨fun c hc e => ?_, rfl⟩
    cases e1 : look c H2 with
    | none => rw [e1] at hc; cases hc
    | some b1 =>
      have := List.find?_eq_none.1 hf _ (look_mem e1)
      simp [e] at this
  | some p =>
    have hm := List.mem_of_find?_eq_some hf
    have hp := List.find?_some hf
    have hj : σ p.1 = j := Nat.eq_of_beq_eq_true hp
    refine .inl ⟨p.1, p.2, ?_, hj, rfl⟩
    cases e1 : look p.1 H2 with
    | none =>
      exfalso
      have : ∀ {l : List (Nat × Bx)} {p : Nat × Bx}, p ∈ l → look p.1 l ≠ none := by
        intro l
        induction l with
        | nil => intro p h; cases h
        | cons q l ih =>
          intro p h
          obtain ⟨q1, q2⟩ := q
          simp only [look]
          cases hb : Nat.beq q1 p.1
          · rcases List.mem_cons.1 h with rfl | h
            · simp at hb
            · simpa using ih h
          · simp
      exact this hm e1
    | some b1 =>
      have := nodup_look ho.2 _ (look_mem e1) _ hm rfl
      rw [← this]
theorem outs_of (hn : NamesOk σ H H1 H1) (hf : FreshOk σ H H1 H2) (ho : OutB σ H1 H2 = true) (hi : nodupB (H1.map fun p => σ p.1) = true) : Outs σ H (hL H1) (hL H2) (updH H (outW σ H2)) B B2 (outBlk σ H2 B B2) := by
  have ho' := ho
  simp only [OutB, Bool.and_eq_true, List.all_eq_true] at ho'
  obtain ⟨⟨o1, o2⟩, o3⟩ := ho'
  have fr := hf.all
  have inj : ∀ c c', (hL H2 c).isSome = true → (hL H2 c').isSome = true → σ c = σ c' → c = c' := fun c c' h1 h2 e => by
    cases e1 : hL H2 c with
    | none => rw [e1] at h1; cases h1
    | some b1 =>
      cases e2 : hL H2 c' with
      | none => rw [e2] at h2; cases h2
      | some b2 => exact congrArg Prod.fst (nodup_look o3 _ (look_mem e1) _ (look_mem e2) e)
  refine ⟨names_of hn hi, fun c bx h1 => ?_, fun c h1 h2 => ?_, inj, fun c bx h1 => ?_, fun j hj => ?_⟩
  · have h2 := o2 _ (look_mem h1)
    cases e2 : look c H2 with
    | none => simp [e2] at h2
    | some b2 =>
      have h3 := fr _ (look_mem e2)
      have h1' : look c H1 = some bx := h1
      simp only [h1'] at h3
      exact ⟨b2, e2, kindBb_ok h3⟩
  · cases e2 : hL H2 c with
    | none => rw [e2] at h1; cases h1
    | some b2 =>
      have h3 := fr _ (look_mem e2)
      have h2' : look c H1 = none := h2
      simp only [h2'] at h3
      exact h3
  · rw [updH_out]
    rcases find_look ho (σ c) with ⟨c', bx', k1, k2, k3⟩ | ⟨k1, _⟩
    · have := inj c' c (by show (look c' H2).isSome = true; rw [k1]; rfl) (by rw [h1]; rfl) k2
      subst this
      have h1' : look c' H2 = some bx := h1
      rw [h1'] at k1; injection k1 with k1; subst k1
      have := o1 _ (look_mem h1)
      simp only at this
      refine ⟨by rw [k3], by simp only [outBlk, k3], this.1, fun g hg => this.2 g hg⟩
    · exact absurd rfl (k1 c (by have h1' : look c H2 = some bx := h1; rw [h1']; rfl))
  · rw [updH_out]
    rcases find_look ho j with ⟨c', bx', k1, k2, k3⟩ | ⟨k1, k2⟩
    · exact absurd k2 (hj c' (by show (look c' H2).isSome = true; rw [k1]; rfl))
    · exact ⟨by rw [k2], by simp only [outBlk, k2]⟩
end
/-- x of the caller's may be handed in as y -/
def WkG (σ : Nat → Nat) (H1 : List (Nat × Bx)) (x y : AV) : Prop := (x = renA σ y ∧ (namesA y).all (fun g => (look g H1).isSome) = true) ∨ (dataA y = true ∧ ∀ H, Wk H x y)
inductive WkGL (σ : Nat → Nat) (H1 : List (Nat × Bx)) : List AV → List AV → Prop
  | nil : WkGL σ H1 [] []
  | cons {x y : AV} {xs ys : List AV} (h : WkG σ H1 x y) (t : WkGL σ H1 xs ys) : WkGL σ H1 (x :: xs) (y :: ys)
mutual
theorem ren_data (σ : Nat → Nat) : ∀ (x : AV), dataA x = true → renA σ x = x ∧ namesA x = []
  | .v x, _ => ⟨rfl, rfl⟩
  | .agg n fs, h => by obtain ⟨h1, h2⟩ := ren_dataL σ fs (by simpa [dataA] using h); simp [renA, namesA, h1, h2]
  | .arr m n xs, _ => ⟨rfl, rfl⟩
  | .ptr _ _ _, h => by simp [dataA] at h
  | .ref x, _ => ⟨rfl, rfl⟩
  | .sl none n xs, _ => ⟨rfl, rfl⟩
  | .sl (some t) n xs, h => by simp [dataA] at h
  | .seg _ _ _ _ _ _, h => by simp [dataA] at h
  | .tup vs, h => by obtain ⟨h1, h2⟩ := ren_dataL σ vs (by simpa [dataA] using h); simp [renA, namesA, h1, h2]
  | .fn f a b, h => by
    simp only [dataA, Bool.and_eq_true] at h
    obtain ⟨h1, h2⟩ := ren_dataL σ a h.1
    obtain ⟨h3, h4⟩ := ren_dataL σ b h.2
    simp [renA, namesA, h1, h2, h3, h4]
  | .ifc t x, h => by obtain ⟨h1, h2⟩ := ren_data σ x (by simpa [dataA] using h); simp [renA, namesA, h1, h2]
  | .own _ _ _ _, h => by simp [dataA] at h
theorem ren_dataL (σ : Nat → Nat) : ∀ (xs : List AV), dataL xs = true → renL σ xs = xs ∧ namesL xs = []
  | [], _ => ⟨rfl, rfl⟩
  | x :: xs, h => by
    simp only [dataL, Bool.and_eq_true] at h
    obtain ⟨h1, h2⟩ := ren_data σ x h.1
    obtain ⟨h3, h4⟩ := ren_dataL σ xs h.2
    simp [renL, namesL, h1, h2, h3, h4]
end
theorem WkGL.rdp {σ : Nat → Nat} {H1 : List (Nat × Bx)} {U : Uns} {w : World} {B : Blk} {H : Hp} {xs ys : List AV} (h : WkGL σ H1 xs ys) {vs : List Value} (hr : Rdp U w xs B H vs) : Rdp U w (renL σ ys) B H vs ∧ ∀ g ∈ namesL ys, (hL H1 g).isSome = true := by
  induction h generalizing vs with
  | nil => exact ⟨by simpa [Rdp, renL] using hr, by simp [namesL]⟩
  | cons hx _ ih =>
    simp only [Rdp] at hr
    obtain ⟨c, vs', e, k1, k2⟩ := hr
    obtain ⟨i1, i2⟩ := ih k2
    simp only [renL, namesL, Rdp, List.mem_append]
    rcases hx with ⟨rfl, h2⟩ | ⟨h1, h2⟩
    · rw [List.all_eq_true] at h2
      exact ⟨⟨c, vs', e, k1, i1⟩, fun g hg => hg.elim (h2 g) (i2 g)⟩
    · obtain ⟨q1, q2⟩ := ren_data σ _ h1
      obtain ⟨k3, k4⟩ := h2 H _ _ _ _ k1
      rw [q1, q2]
      exact ⟨⟨c, vs', by rw [e, k4], Rd_free _ k3, i1⟩, fun g hg => hg.elim (fun h => by cases h) (i2 g)⟩
section
variable {P : Program} {E : Env} {nt : Nat} {ops : Array Oper} {T : Nat → Option AV} {H : Hp} {d : Option Nat} {ty : TypeId} {pos : String} {af : Array Edge} {gd : Option (Nat × Bool)}
/-- the call itself: boxes handed in and out -/
theorem call_boxes {B : Blk} {w : World} {σ : Nat → Nat} {H1 H2 : List (Nat × Bx)} {f : FuncId} {ys : List AV} {y : AV} {vs : List Value} {X : Env → Prop} (m : Mem E B H w) (hc : CFnX P X f ys H1 y H2) (hX : ∀ lo, X (subE E B H w σ (hL H1) lo)) (hv : Rdp (unst E B H) w (renL σ ys) B H vs) (hys : ∀ g ∈ namesL ys, (hL H1 g).isSome = true)
    (hn : NamesOk σ H H1 H1) (hf : FreshOk σ H H1 H2) (ho : OutB σ H1 H2 = true) (hi : nodupB (H1.map fun p => σ p.1) = true) (hy : (namesA y).all (fun g => (look g H2).isSome) = true) :
    Calls P f vs.toArray w fun e w' => ∃ v B', e = .returned v ∧ Mem E B' (updH H (outW σ H2)) w' ∧ Rdv (unst E B' (updH H (outW σ H2))) w' B' (updH H (outW σ H2)) (renA σ y) v ∧
      ∀ x v, Rdv (unst E B H) w B H x v → Rdv (unst E B' (updH H (outW σ H2))) w' B' (updH H (outW σ H2)) x v := by
  have hN := names_of hn hi
  have h1 : Rdp (unst (subE E B H w σ (hL H1) hN.lo) (subB σ B (hL H1)) (hL H1)) w ys (subB σ B (hL H1)) (hL H1) vs := by
    rw [sub_unst m hN]
    exact (Rdp_ren ys (fun g hg => names_cor hN (hys g hg))).1 hv
  refine Calls.mono (hc _ _ w vs (hX _) rfl (m.enter hN) h1) ?_
  rintro e w' ⟨v, B2, rfl, h2, h3⟩
  have o : Outs σ H (hL H1) (hL H2) (updH H (outW σ H2)) B B2 (outBlk σ H2 B B2) := outs_of hn hf ho hi
  rw [List.all_eq_true] at hy
  exact ⟨v, _, rfl, Mem.leave m o h2, outs_rd2 m o h2 hy h3, fun x v hx => outs_rd1 m o h2 hx⟩
theorem ok_ccall {f : FuncId} {fn : Func} {x : Operand} {l : List Operand} {ats : Array TypeId} {caps xs ys : List AV} {y : AV} {H1 H2 : List (Nat × Bx)} (σ : Nat → Nat) (hc : CFn P f ys H1 y H2) (hd : dOk nt d = true) (hf : P.funcs[f]? = some fn) (hb : fn.body.isSome = true) (hnm : (fn.name == "runtime.NumGoroutine") = false)
    (hxf : evalO T x = some (.fn (.func f) [] caps)) (hx : l.map (evalO T) = xs.map some) (hnt : xs.all notTup = true) (hw : WkGL σ H1 (xs ++ caps) ys)
    (hn : NamesOk σ H H1 H1) (hfr : FreshOk σ H H1 H2) (ho : OutB σ H1 H2 = true) (hi : nodupB (H1.map fun p => σ p.1) = true) (hy : (namesA y).all (fun g => (look g H2).isSome) = true) :
    OpOK P E nt ops ⟨d, .call { callee := .value x, args := l.toArray, argTypes := ats }, ty, pos, af, gd⟩ T H ((H1.map fun p => σ p.1)) ⟨renA σ y, outW σ H2⟩ := by
  intro T' H' ht hrh hwr B a w r K Q hK
  have hag : ∀ p ∈ H1, H' (σ p.1) = H (σ p.1) := fun p hp => hrh _ (List.mem_map.2 ⟨p, hp, rfl⟩)
  have hn' : NamesOk σ H' H1 H1 := by
    have : ∀ l : List (Nat × Bx), (∀ p ∈ l, H' (σ p.1) = H (σ p.1)) → NamesOk σ H H1 l → NamesOk σ H' H1 l := by
      intro l
      induction l with
      | nil => exact fun _ _ => trivial
      | cons p l ih =>
        obtain ⟨c, bx⟩ := p
        intro h1 ⟨h2, h3, h4⟩
        exact ⟨(h1 (c, bx) List.mem_cons_self).trans h2, h3, ih (fun p hp => h1 p (List.mem_cons_of_mem _ hp)) h4⟩
    exact this H1 hag hn
  have hfr' : FreshOk σ H' H1 H2 := by
    have : ∀ l : List (Nat × Bx), (∀ p ∈ l, H' (σ p.1) = H (σ p.1)) → FreshOk σ H H1 l → FreshOk σ H' H1 l := by
      intro l
      induction l with
      | nil => exact fun _ _ => trivial
      | cons p l ih =>
        obtain ⟨c, bx⟩ := p
        intro h1 ⟨h2, h3⟩
        refine ⟨?_, ih (fun p hp => h1 p (List.mem_cons_of_mem _ hp)) h3⟩
        cases hl : look c H1 with
        | some b1 => rw [hl] at h2; exact h2
        | none => rw [hl] at h2; exact (h1 (c, bx) List.mem_cons_self).trans h2
    exact this H2 (fun p hp => hwr (σ p.1, renB σ p.2) (List.mem_map.2 ⟨p, hp, rfl⟩)) hfr
  have hxs := args_rdp r l xs (map_agree hx (fun y hy => agree_op ht (by simp [Op.operands, Call.operands]; exact .inr hy))) (fun z hz => notTup_ne (List.all_eq_true.1 hnt z hz))
  have hfv := Rdv_one (by simp) (r.eval ((agree_op ht (x := x) (by simp [Op.operands, Call.operands])).trans hxf)) rfl
  simp only [Rd] at hfv
  obtain ⟨c1, c2, e1, e2, e3⟩ := hfv
  simp only [Rdp] at e2
  subst e2
  injection e1 with e1
  obtain ⟨k1, k2⟩ := hw.rdp (Rdp_append hxs e3)
  have h2 := call_boxes r.mem hc (fun _ => trivial) k1 k2 hn' hfr' ho hi hy
  unfold Oper.wp
  have he : (execOp a.eval ⟨d, .call { callee := .value x, args := l.toArray, argTypes := ats }, ty, pos, af, gd⟩).run P w = .ok (.enter f (l.map a.eval ++ c2).toArray) w := by
    have hb' : fn.body ≠ none := by cases h : fn.body <;> simp_all
    have hn' : fn.name ≠ "runtime.NumGoroutine" := by simpa using hnm
    have ha : (l.map a.eval ++ c2).toArray = (l.toArray.map a.eval) ++ c2.toArray := by apply Array.ext'; simp
    rw [ha]
    simp [execOp, resolve, Deferred.ofValue, e1, invoke, callFunc, hf, hn', hb']
  rw [he]
  refine Calls.mono h2 ?_
  rintro e w' ⟨v, B', rfl, h3, h4, h5⟩
  refine hK B' _ w' ((h3.rel r.nt r.df fun s z hs => ?_).put hd h4)
  obtain ⟨v0, q1, q2⟩ := r.tmp s z hs
  exact ⟨v0, q1, h5 _ _ q2⟩
end
/-- names for a call's boxes -/
def sg (l : List (Nat × Nat)) : Nat → Nat := fun c => match look c l with | some d => d | none => c
section
variable {P : Program} {E : Env} {nt : Nat} {ops : Array Oper} {l : List Oper} {T : List (Nat × AV)} {H : List (Nat × Bx)} {rs : List Rec} {K : St → List Rec → Prop} {op : Op} {ty : TypeId} {pos : String} {af : Array Edge} {gd : Option (Nat × Bool)} {d : Nat} {rh : List Nat}
theorem Wc {v : AV} {wr : List (Nat × Bx)} (hok : OpOK P E nt ops ⟨some d, op, ty, pos, af, gd⟩ (St.t ⟨T, H⟩) (St.h ⟨T, H⟩) rh ⟨v, wr⟩) (hw : wantedA ops ⟨some d, op, ty, pos, af, gd⟩ (St.t ⟨T, H⟩) = some true)
    (h : AWops P E nt ops l ⟨(d, v) :: T, wr ++ H⟩ (rs ++ [⟨rh, wr.map (·.1)⟩]) K) : AWops P E nt ops (⟨some d, op, ty, pos, af, gd⟩ :: l) ⟨T, H⟩ rs K := ⟨⟨T, H⟩, ⟨rfl, rfl⟩, .inl ⟨hw, rh, _, hok, h⟩⟩
theorem Wc0 {v : AV} {wr : List (Nat × Bx)} (hok : OpOK P E nt ops ⟨none, op, ty, pos, af, gd⟩ (St.t ⟨T, H⟩) (St.h ⟨T, H⟩) rh ⟨v, wr⟩) (hw : wantedA ops ⟨none, op, ty, pos, af, gd⟩ (St.t ⟨T, H⟩) = some true)
    (h : AWops P E nt ops l ⟨T, wr ++ H⟩ (rs ++ [⟨rh, wr.map (·.1)⟩]) K) : AWops P E nt ops (⟨none, op, ty, pos, af, gd⟩ :: l) ⟨T, H⟩ rs K := ⟨⟨T, H⟩, ⟨rfl, rfl⟩, .inl ⟨hw, rh, _, hok, h⟩⟩
/-- a contract over boxes with what a call of it wants -/
def CCall (f : FuncId) (args : List AV) (H1 : List (Nat × Bx)) (r : AV) (H2 : List (Nat × Bx)) : Prop := ∃ fn, Try.prog.funcs[f]? = some fn ∧ fn.body.isSome = true ∧ (fn.name == "runtime.NumGoroutine") = false ∧ CFn Try.prog f args H1 r H2
theorem ccall {f : FuncId} {fn : Func} {args : List AV} {H1 H2 : List (Nat × Bx)} {r : AV} (hf : Try.prog.funcs[f]? = some fn) (hc : CFn Try.prog f args H1 r H2) (hb : fn.body.isSome = true) (hn : (fn.name == "runtime.NumGoroutine") = false) : CCall f args H1 r H2 := ⟨fn, hf, hb, hn, hc⟩
end
section
variable {E : Env} {nt : Nat} {ops : Array Oper} {T : Nat → Option AV} {H : Hp} {d : Option Nat} {ty : TypeId} {pos : String} {af : Array Edge} {gd : Option (Nat × Bool)}
theorem o_ccall {f : FuncId} {x : Operand} {l : List Operand} {ats : Array TypeId} {caps xs ys : List AV} {y : AV} {H1 H2 : List (Nat × Bx)} (s : List (Nat × Nat)) (hc : CCall f ys H1 y H2) (hd : dOk nt d = true)
    (hxf : evalO T x = some (.fn (.func f) [] caps)) (hx : argsA T l = some xs) (hnt : xs.all notTup = true) (hw : WkGL (sg s) H1 (xs ++ caps) ys)
    (hn : NamesOk (sg s) H H1 H1) (hfr : FreshOk (sg s) H H1 H2) (ho : OutB (sg s) H1 H2 = true) (hi : nodupB (H1.map fun p => sg s p.1) = true) (hy : (namesA y).all (fun g => (look g H2).isSome) = true) :
    OpOK Try.prog E nt ops ⟨d, .call { callee := .value x, args := l.toArray, argTypes := ats }, ty, pos, af, gd⟩ T H ((H1.map fun p => sg s p.1)) ⟨renA (sg s) y, outW (sg s) H2⟩ := by
  obtain ⟨fn, h1, h2, h3, h4⟩ := hc
  exact ok_ccall (sg s) h4 hd h1 h2 h3 hxf (argsA_map hx) hnt hw hn hfr ho hi hy
end
end Go.Proofs.Ytphojngdgmnpaaa
