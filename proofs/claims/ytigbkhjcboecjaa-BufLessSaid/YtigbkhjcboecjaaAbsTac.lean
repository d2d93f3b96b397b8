/-
  AbsTac: the steps of a walk over readings, in short words, at this program and its table of types.
-/
import Derived.Test.YtigbkhjcboecjaaAbsTypes
namespace Go.Proofs.Ytigbkhjcboecjaa
open Go Go.RowKit
set_option linter.unusedVariables false
set_option linter.unusedSimpArgs false

section
variable {P : Program} {E : Env} {nt : Nat} {S : St} {Q : Exit → St → Prop} {K : St → Prop}
theorem thenA_n (h : K S) : thenA K Q .normal S := h
theorem thenA_r (h : Q .ret S) : thenA K Q .ret S := h
theorem thenA_e {i : Nat} (h : Q (.exit i) S) : thenA K Q (.exit i) S := h
theorem blockA_n {i : Nat} (h : Q .normal S) : inBlockA i Q .normal S := h
theorem blockA_r {i : Nat} (h : Q .ret S) : inBlockA i Q .ret S := h
theorem blockA_h {i : Nat} (h : Q .normal S) : inBlockA i Q (.exit i) S := by simp only [inBlockA, if_true]; exact h
theorem blockA_e {i j : Nat} (hn : Nat.beq j i = false) (h : Q (.exit j) S) : inBlockA i Q (.exit j) S := by
  have : j ≠ i := fun e => by subst e; simp at hn
  simp only [inBlockA, if_neg this]; exact h
theorem scopeA_n (h : Q .normal S) : noGotoA Q .normal S := h
theorem scopeA_r (h : Q .ret S) : noGotoA Q .ret S := h
theorem scopeA_e {i : Nat} (h : Q (.exit i) S) : noGotoA Q (.exit i) S := h
theorem AW_reg {id : Nat} {l : List Oper} (h : AWops P E nt l.toArray l S [] (fun S' _ => Q .normal S')) : AW P E nt (.region id l.toArray false) S Q := AW_region (by simpa using h)
theorem AW_drw {id : Nat} {l : List Oper} (hm : P.follows .mixedOrders = true) (h : AWops P E nt l.toArray l S [] (fun S' rs => orderOk l.toArray rs = true ∧ Q .normal S')) : AW P E nt (.region id l.toArray true) S Q := AW_draw hm (by simpa using h)
theorem AW_t {c : Operand} {x y : Code} (hc : evalO S.t c = some (.v (.bool true))) (h : AW P E nt x S Q) : AW P E nt (.cond c x y) S Q := AW_cond true hc (fun _ => h) (fun h => by cases h)
theorem AW_f {c : Operand} {x y : Code} (hc : evalO S.t c = some (.v (.bool false))) (h : AW P E nt y S Q) : AW P E nt (.cond c x y) S Q := AW_cond false hc (fun h => by cases h) (fun _ => h)
theorem AW_yes {c : Operand} {x y : Code} {p : Prop} [Decidable p] (hc : evalO S.t c = some (.v (.bool (decide p)))) (hp : p) (h : AW P E nt x S Q) : AW P E nt (.cond c x y) S Q := AW_t (by rw [hc, decide_eq_true hp]) h
theorem AW_no {c : Operand} {x y : Code} {p : Prop} [Decidable p] (hc : evalO S.t c = some (.v (.bool (decide p)))) (hp : ¬ p) (h : AW P E nt y S Q) : AW P E nt (.cond c x y) S Q := AW_f (by rw [hc, decide_eq_false hp]) h
theorem AW_if {c : Operand} {x y : Code} {p : Prop} [Decidable p] (hc : evalO S.t c = some (.v (.bool (decide p)))) (h1 : p → AW P E nt x S Q) (h2 : ¬ p → AW P E nt y S Q) : AW P E nt (.cond c x y) S Q :=
  AW_cond _ hc (fun h => h1 (of_decide_eq_true h)) (fun h => h2 (of_decide_eq_false h))
theorem AW_is {c : Operand} {x y : Code} {b : Bool} (v : Bool) (hc : evalO S.t c = some (.v (.bool b))) (hb : b = v) (h : AW P E nt (if v then x else y) S Q) : AW P E nt (.cond c x y) S Q := by
  subst hb; exact AW_cond b hc (fun e => by subst e; exact h) (fun e => by subst e; exact h)
end
/-- a test's way, by what it came to -/
def CondB (P : Program) (E : Env) (nt : Nat) (b : Bool) (x y : Code) (S : St) (Q : Exit → St → Prop) : Prop := AW P E nt (if b then x else y) S Q
section
variable {P : Program} {E : Env} {nt : Nat} {S : St} {Q : Exit → St → Prop} {x y : Code}
theorem AW_c {c : Operand} {b : Bool} (hc : evalO S.t c = some (.v (.bool b))) (h : CondB P E nt b x y S Q) : AW P E nt (.cond c x y) S Q := AW_is b hc rfl h
theorem cb_t (h : AW P E nt x S Q) : CondB P E nt true x y S Q := h
theorem cb_f (h : AW P E nt y S Q) : CondB P E nt false x y S Q := h
theorem cb_yes {p : Prop} [Decidable p] (hp : p) (h : AW P E nt x S Q) : CondB P E nt (decide p) x y S Q := by
  unfold CondB; rw [decide_eq_true hp]; exact h
theorem cb_no {p : Prop} [Decidable p] (hp : ¬ p) (h : AW P E nt y S Q) : CondB P E nt (decide p) x y S Q := by
  unfold CondB; rw [decide_eq_false hp]; exact h
theorem cb_if {p : Prop} [Decidable p] (h1 : p → AW P E nt x S Q) (h2 : ¬ p → AW P E nt y S Q) : CondB P E nt (decide p) x y S Q := by
  by_cases hp : p
  · exact cb_yes hp (h1 hp)
  · exact cb_no hp (h2 hp)
theorem cb_b {b : Bool} (h1 : b = true → AW P E nt x S Q) (h2 : b = false → AW P E nt y S Q) : CondB P E nt b x y S Q := by
  cases b
  · exact h2 rfl
  · exact h1 rfl
theorem cb_is {b : Bool} (v : Bool) (hb : b = v) (h : CondB P E nt v x y S Q) : CondB P E nt b x y S Q := by subst hb; exact h
end
attribute [local irreducible] OpOK
theorem mixed : Try.prog.follows .mixedOrders = true := by kernel_rfl
section
variable {E : Env} {nt : Nat} {ops : Array Oper} {T : Nat → Option AV} {H : Hp} {d : Option Nat} {ty : TypeId} {pos : String} {af : Array Edge} {gd : Option (Nat × Bool)}
theorem o_len {x : Operand} {t e es bytes : Nat} {ea : Bool} {tok : Option Nat} {n : Nat} {xs : List AV} (hs : tabT.ti t = some (.sl e es bytes ea)) (hd : dOk nt d = true) (hx : evalO T x = some (.sl tok n xs)) :
    OpOK Try.prog E nt ops ⟨d, .call { callee := .builtin .len, args := #[x], argTypes := #[t] }, ty, pos, af, gd⟩ T H [] ⟨.v (.int .i64 xs.length), []⟩ := ok_len (tabT.ok t _ hs).2.1 hd hx
theorem o_lenm {α : Type} {f : α → AV} {x : Operand} {t e es bytes : Nat} {ea : Bool} {tok : Option Nat} {n : Nat} {xs : List α} (hs : tabT.ti t = some (.sl e es bytes ea)) (hd : dOk nt d = true) (hx : evalO T x = some (.sl tok n (xs.map f))) :
    OpOK Try.prog E nt ops ⟨d, .call { callee := .builtin .len, args := #[x], argTypes := #[t] }, ty, pos, af, gd⟩ T H [] ⟨.v (.int .i64 xs.length), []⟩ := by
  have := o_len (E := E) (ops := ops) (H := H) (ty := ty) (pos := pos) (af := af) (gd := gd) hs hd hx
  rwa [List.length_map] at this
theorem o_len0 {x : Operand} {t e es bytes : Nat} {ea : Bool} (hs : tabT.ti t = some (.sl e es bytes ea)) (hd : dOk nt d = true) (hx : evalO T x = some (.v (.slice none 0 0))) :
    OpOK Try.prog E nt ops ⟨d, .call { callee := .builtin .len, args := #[x], argTypes := #[t] }, ty, pos, af, gd⟩ T H [] ⟨.v (.int .i64 0), []⟩ := ok_len_nil (tabT.ok t _ hs).2.1 hd hx
theorem o_lens {x : Operand} {t e es bytes : Nat} {ea : Bool} {g off n len cap : Nat} {p : List Nat} (hs : tabT.ti t = some (.sl e es bytes ea)) (hd : dOk nt d = true) (hx : evalO T x = some (.seg g off n p len cap)) :
    OpOK Try.prog E nt ops ⟨d, .call { callee := .builtin .len, args := #[x], argTypes := #[t] }, ty, pos, af, gd⟩ T H [] ⟨.v (.int .i64 len), []⟩ := ok_len_seg (tabT.ok t _ hs).2.1 hd hx
theorem o_lent {x : Operand} {s : ByteArray} (hd : dOk nt d = true) (hx : evalO T x = some (.v (.string s))) :
    OpOK Try.prog E nt ops ⟨d, .call { callee := .builtin .len, args := #[x], argTypes := #[9] }, ty, pos, af, gd⟩ T H [] ⟨.v (.int .i64 s.size), []⟩ := ok_len_str Try.underlying9 hd hx
theorem o_add {t t' : TypeId} {x y : Operand} {a b : Int} (hd : dOk nt d = true) (hx : evalO T x = some (.v (.int .i64 a))) (hy : evalO T y = some (.v (.int .i64 b))) (h : -9223372036854775808 ≤ a + b ∧ a + b ≤ 9223372036854775807) : OpOK Try.prog E nt ops ⟨d, .binOp .add t x y t', ty, pos, af, gd⟩ T H [] ⟨.v (.int .i64 (a + b)), []⟩ := ok_add hd hx hy (i64_add h)
theorem o_add1 {t t' : TypeId} {x y : Operand} {a : Nat} (hd : dOk nt d = true) (hx : evalO T x = some (.v (.int .i64 (a : Nat)))) (hy : evalO T y = some (.v (.int .i64 1))) (h : a + 1 ≤ 9223372036854775807) : OpOK Try.prog E nt ops ⟨d, .binOp .add t x y t', ty, pos, af, gd⟩ T H [] ⟨.v (.int .i64 ((a + 1 : Nat) : Int)), []⟩ := o_add hd hx hy (by omega)
theorem o_addn {t t' : TypeId} {x y : Operand} {a b : Nat} (hd : dOk nt d = true) (hx : evalO T x = some (.v (.int .i64 (a : Nat)))) (hy : evalO T y = some (.v (.int .i64 (b : Nat)))) (h : a + b ≤ 9223372036854775807) : OpOK Try.prog E nt ops ⟨d, .binOp .add t x y t', ty, pos, af, gd⟩ T H [] ⟨.v (.int .i64 ((a + b : Nat) : Int)), []⟩ := o_add hd hx hy (by omega)
theorem o_sub {t t' : TypeId} {x y : Operand} {a b : Int} (hd : dOk nt d = true) (hx : evalO T x = some (.v (.int .i64 a))) (hy : evalO T y = some (.v (.int .i64 b))) (h : -9223372036854775808 ≤ a - b ∧ a - b ≤ 9223372036854775807) : OpOK Try.prog E nt ops ⟨d, .binOp .sub t x y t', ty, pos, af, gd⟩ T H [] ⟨.v (.int .i64 (a - b)), []⟩ := ok_sub hd hx hy (i64_sub h)
theorem o_mul {t t' : TypeId} {x y : Operand} {a b : Int} (hd : dOk nt d = true) (hx : evalO T x = some (.v (.int .i64 a))) (hy : evalO T y = some (.v (.int .i64 b))) (h : -9223372036854775808 ≤ a * b ∧ a * b ≤ 9223372036854775807) : OpOK Try.prog E nt ops ⟨d, .binOp .mul t x y t', ty, pos, af, gd⟩ T H [] ⟨.v (.int .i64 (a * b)), []⟩ := ok_mul hd hx hy (i64_mul h)
theorem o_quo {t t' : TypeId} {x y : Operand} {a b : Int} (hd : dOk nt d = true) (hx : evalO T x = some (.v (.int .i64 a))) (hy : evalO T y = some (.v (.int .i64 b))) (h : 0 ≤ a ∧ a ≤ 9223372036854775807 ∧ 1 ≤ b) : OpOK Try.prog E nt ops ⟨d, .binOp .quo t x y t', ty, pos, af, gd⟩ T H [] ⟨.v (.int .i64 (a / b)), []⟩ := ok_quo hd hx hy (by omega) (i64_quo h)
theorem o_rem {t t' : TypeId} {x y : Operand} {a b : Int} (hd : dOk nt d = true) (hx : evalO T x = some (.v (.int .i64 a))) (hy : evalO T y = some (.v (.int .i64 b))) (h : 0 ≤ a ∧ 1 ≤ b) : OpOK Try.prog E nt ops ⟨d, .binOp .rem t x y t', ty, pos, af, gd⟩ T H [] ⟨.v (.int .i64 (a % b)), []⟩ := ok_rem hd hx hy (by omega) (i64_rem h.1)
theorem o_box {e : TypeId} {x : Operand} {z : AV} {g : Nat} (hd : dOk nt (some g) = true) (hx : evalO T x = some z) (hnt : notTup z = true) (hg : H g = none) : OpOK Try.prog E nt ops ⟨some g, .box e x, ty, pos, af, gd⟩ T H [] ⟨.ptr g 0 [], [(g, .var z)]⟩ := ok_box hd hx hnt hg


theorem o_alloc {e : TypeId} {z : AV} {g : Nat} (hz : ZeroOk Try.prog e z) (hd : dOk nt (some g) = true) (hg : H g = none) : OpOK Try.prog E nt ops ⟨some g, .alloc e, ty, pos, af, gd⟩ T H [] ⟨.ptr g 0 [], [(g, .var z)]⟩ := by
  have h := @ok_alloc Try.prog E nt ops T H (some g) ty pos af gd e z g hd hz hg
  with_reducible exact h
/-- an element of a slice that is a list's image -/
theorem o_idx {α : Type} {f : α → AV} {x ix : Operand} {t e : TypeId} {es bytes : Nat} {ea : Bool} {tok : Option Nat} {xs : List α} {k : IntKind} {i : Nat} (hd : dOk nt d = true) (hs : tabT.ti t = some (.sl e es bytes ea)) (hx : evalO T x = some (.sl tok es (xs.map f))) (hi : evalO T ix = some (.v (.int k (i : Nat))))
    (hl : i < xs.length) : OpOK Try.prog E nt ops ⟨d, .indexAddr t x ix, ty, pos, af, gd⟩ T H [] ⟨.ref (f xs[i]), []⟩ :=
  ok_idx_sl tabT hd hs hx hi (Int.natCast_nonneg i) (by simp [hl])
theorem o_idxi {α : Type} {f : α → AV} {x ix : Operand} {t e : TypeId} {es bytes : Nat} {ea : Bool} {tok : Option Nat} {xs : List α} {k : IntKind} {n : Int} (i : Nat) (hd : dOk nt d = true) (hs : tabT.ti t = some (.sl e es bytes ea)) (hx : evalO T x = some (.sl tok es (xs.map f))) (hi : evalO T ix = some (.v (.int k n)))
    (hn : n = (i : Int)) (hl : i < xs.length) : OpOK Try.prog E nt ops ⟨d, .indexAddr t x ix, ty, pos, af, gd⟩ T H [] ⟨.ref (f xs[i]), []⟩ := by
  subst hn; exact o_idx hd hs hx hi hl
end
theorem wkl0 {H : Hp} : WkL H [] [] := .nil
theorem wkd {H : Hp} {x : AV} {xs ys : List AV} (hx : dataA x = true) (h : WkL H xs ys) : WkL H (x :: xs) (x :: ys) := .cons (Wk.data hx) h
theorem wkt {H : Hp} {t : Option Nat} {n : Nat} {zs : List AV} {xs ys : List AV} (h : WkL H xs ys) : WkL H (.sl t n zs :: xs) (.sl none n zs :: ys) := .cons Wk.tok h
theorem wkn {H : Hp} {n : Nat} {xs ys : List AV} (h : WkL H xs ys) : WkL H (.v (.slice none 0 0) :: xs) (.sl none n [] :: ys) := .cons Wk.nil h
section
variable {E : Env} {nt : Nat} {ops : Array Oper} {T : Nat → Option AV} {H : Hp} {d : Option Nat} {ty : TypeId} {pos : String} {af : Array Edge} {gd : Option (Nat × Bool)}
theorem o_call0 {f : FuncId} {fn : Func} {l : List Operand} {ats : Array TypeId} {xs ys : List AV} {y : AV} (hf : Try.prog.funcs[f]? = some fn) (hc : AFn Try.prog f ys y) (hb : fn.body.isSome = true) (hnm : (fn.name == "runtime.NumGoroutine") = false) (hd : dOk nt d = true)
    (hx : l.map (evalO T) = xs.map some) (hw : ∀ H', WkL H' xs ys) (hnt : xs.all notTup = true) : OpOK Try.prog E nt ops ⟨d, .call { callee := .value (.func f), args := l.toArray, argTypes := ats }, ty, pos, af, gd⟩ T H [] ⟨y, []⟩ :=
  ok_call hd hf hb hnm (by simpa using hx) hc hw hnt
def argsA (T : Nat → Option AV) : List Operand → Option (List AV)
  | [] => some []
  | x :: l => match evalO T x, argsA T l with
    | some v, some vs => some (v :: vs)
    | _, _ => none
theorem argsA_map {T : Nat → Option AV} : ∀ {l : List Operand} {xs : List AV}, argsA T l = some xs → l.map (evalO T) = xs.map some
  | [], xs, h => by simp only [argsA] at h; injection h with h; subst h; rfl
  | x :: l, xs, h => by
    simp only [argsA] at h
    split at h
    · rename_i v vs h1 h2
      injection h with h; subst h
      simp only [List.map_cons, h1, argsA_map h2]
    · cases h
theorem o_call {f : FuncId} {fn : Func} {l : List Operand} {ats : Array TypeId} {xs ys : List AV} {y : AV} (hf : Try.prog.funcs[f]? = some fn) (hc : AFn Try.prog f ys y) (hb : fn.body.isSome = true) (hnm : (fn.name == "runtime.NumGoroutine") = false) (hd : dOk nt d = true)
    (hx : argsA T l = some xs) (hw : ∀ H', WkL H' xs ys) (hnt : xs.all notTup = true) : OpOK Try.prog E nt ops ⟨d, .call { callee := .value (.func f), args := l.toArray, argTypes := ats }, ty, pos, af, gd⟩ T H [] ⟨y, []⟩ := o_call0 hf hc hb hnm hd (argsA_map hx) hw hnt
end
section
variable {E : Env} {nt : Nat} {ops : Array Oper} {T : Nat → Option AV} {H : Hp} {d : Option Nat} {ty : TypeId} {pos : String} {af : Array Edge} {gd : Option (Nat × Bool)}
theorem o_minn {x y : Operand} {t t' : TypeId} {k : IntKind} {p q : Nat} (hd : dOk nt d = true) (hx : evalO T x = some (.v (.int k (p : Nat)))) (hy : evalO T y = some (.v (.int k (q : Nat)))) :
    OpOK Try.prog E nt ops ⟨d, .call { callee := .builtin .min, args := #[x, y], argTypes := #[t, t'] }, ty, pos, af, gd⟩ T H [] ⟨.v (.int k (min p q : Nat)), []⟩ := by
  have h := ok_min (P := Try.prog) (E := E) (ops := ops) (H := H) (ty := ty) (pos := pos) (af := af) (gd := gd) (t := t) (t' := t') hd hx hy
  have e : (if (q : Int) < p then (q : Int) else p) = ((min p q : Nat) : Int) := by split <;> omega
  rwa [e] at h
end
/-- where a walk stands (for looking alone) -/
def StuckOp (T : List (Nat × AV)) (H : List (Nat × Bx)) (o : Op) (gd : Option (Nat × Bool)) : Prop := False
theorem stuck_op {P : Program} {E : Env} {nt : Nat} {ops : Array Oper} {l : List Oper} {T : List (Nat × AV)} {H : List (Nat × Bx)} {rs : List Rec} {K : St → List Rec → Prop} {o : Oper} (h : StuckOp T H o.op o.guard) : AWops P E nt ops (o :: l) ⟨T, H⟩ rs K := h.elim
def StuckC (b : Bool) (S : St) : Prop := False
theorem stuck_c {P : Program} {E : Env} {nt : Nat} {b : Bool} {x y : Code} {S : St} {Q : Exit → St → Prop} (h : StuckC b S) : CondB P E nt b x y S Q := h.elim
def StuckW (S : St) : Prop := False
theorem stuck_w {P : Program} {E : Env} {nt : Nat} {x : Code} {S : St} {Q : Exit → St → Prop} (h : StuckW S) : AW P E nt x S Q := h.elim
theorem b_nt : true = !false := rfl
theorem b_nf : false = !true := rfl
section
variable {E : Env} {nt : Nat} {ops : Array Oper} {T : Nat → Option AV} {H : Hp} {d : Option Nat} {ty : TypeId} {pos : String} {af : Array Edge} {gd : Option (Nat × Bool)}
theorem o_eqd {α : Type} [DecidableEq α] (D : DT α) (heq : ∀ (a b : α) (w : World), (binOp .eql D.t (.agg (D.arr a)) (.agg (D.arr b))).run Try.prog w = .ok (.bool (decide (a = b))) w) (hg : Try.prog.eqGuardType Try.prog.depth D.t = false) {t' : TypeId} {x y : Operand} {a b : α} (hd : dOk nt d = true) (hx : evalO T x = some (D.av a)) (hy : evalO T y = some (D.av b)) :
    OpOK Try.prog E nt ops ⟨d, .binOp .eql D.t x y t', ty, pos, af, gd⟩ T H [] ⟨.v (.bool (decide (a = b))), []⟩ :=
  ok_val hd fun B T' H' A w r ht hh => ⟨.bool (decide (a = b)), by
    have h1 := D.rdv.1 (r.eval ((ht x (by simp [Op.operands])).trans hx))
    have h2 := D.rdv.1 (r.eval ((ht y (by simp [Op.operands])).trans hy))
    simp only [execOp, h1, h2, Sem.run_bind, heq a b w]
    simp [eqGuard, hg, heq a b w], by rw [Rdv_v]; exact ⟨rfl, rfl⟩⟩
theorem o_ned {α : Type} [DecidableEq α] (D : DT α) (heq : ∀ (a b : α) (w : World), (binOp .neq D.t (.agg (D.arr a)) (.agg (D.arr b))).run Try.prog w = .ok (.bool (!decide (a = b))) w) (hg : Try.prog.eqGuardType Try.prog.depth D.t = false) {t' : TypeId} {x y : Operand} {a b : α} (hd : dOk nt d = true) (hx : evalO T x = some (D.av a)) (hy : evalO T y = some (D.av b)) :
    OpOK Try.prog E nt ops ⟨d, .binOp .neq D.t x y t', ty, pos, af, gd⟩ T H [] ⟨.v (.bool (decide (a ≠ b))), []⟩ :=
  ok_val hd fun B T' H' A w r ht hh => ⟨.bool (decide (a ≠ b)), by
    have h1 := D.rdv.1 (r.eval ((ht x (by simp [Op.operands])).trans hx))
    have h2 := D.rdv.1 (r.eval ((ht y (by simp [Op.operands])).trans hy))
    have e : (!decide (a = b)) = decide (a ≠ b) := by simp
    simp only [execOp, h1, h2, Sem.run_bind, heq a b w, e]
    simp [eqGuard, hg, heq a b w], by rw [Rdv_v]; exact ⟨rfl, rfl⟩⟩
theorem o_eqKey {t' : TypeId} {x y : Operand} {a b : Key} (hd : dOk nt d = true) (hx : evalO T x = some a.av) (hy : evalO T y = some b.av) : OpOK Try.prog E nt ops ⟨d, .binOp .eql 27 x y t', ty, pos, af, gd⟩ T H [] ⟨.v (.bool (decide (a = b))), []⟩ := o_eqd dKey Key.eql Key.eqG hd hx hy
theorem o_neKey {t' : TypeId} {x y : Operand} {a b : Key} (hd : dOk nt d = true) (hx : evalO T x = some a.av) (hy : evalO T y = some b.av) : OpOK Try.prog E nt ops ⟨d, .binOp .neq 27 x y t', ty, pos, af, gd⟩ T H [] ⟨.v (.bool (decide (a ≠ b))), []⟩ := o_ned dKey Key.neq Key.eqG hd hx hy
theorem o_eqVl {t' : TypeId} {x y : Operand} {a b : Vl} (hd : dOk nt d = true) (hx : evalO T x = some a.av) (hy : evalO T y = some b.av) : OpOK Try.prog E nt ops ⟨d, .binOp .eql 34 x y t', ty, pos, af, gd⟩ T H [] ⟨.v (.bool (decide (a = b))), []⟩ := o_eqd dVl Vl.eql Vl.eqG hd hx hy
theorem o_neVl {t' : TypeId} {x y : Operand} {a b : Vl} (hd : dOk nt d = true) (hx : evalO T x = some a.av) (hy : evalO T y = some b.av) : OpOK Try.prog E nt ops ⟨d, .binOp .neq 34 x y t', ty, pos, af, gd⟩ T H [] ⟨.v (.bool (decide (a ≠ b))), []⟩ := o_ned dVl Vl.neq Vl.eqG hd hx hy
theorem o_eqEnt {t' : TypeId} {x y : Operand} {a b : Ent} (hd : dOk nt d = true) (hx : evalO T x = some a.av) (hy : evalO T y = some b.av) : OpOK Try.prog E nt ops ⟨d, .binOp .eql 75 x y t', ty, pos, af, gd⟩ T H [] ⟨.v (.bool (decide (a = b))), []⟩ := o_eqd dEnt Ent.eql Ent.eqG hd hx hy
theorem o_neEnt {t' : TypeId} {x y : Operand} {a b : Ent} (hd : dOk nt d = true) (hx : evalO T x = some a.av) (hy : evalO T y = some b.av) : OpOK Try.prog E nt ops ⟨d, .binOp .neq 75 x y t', ty, pos, af, gd⟩ T H [] ⟨.v (.bool (decide (a ≠ b))), []⟩ := o_ned dEnt Ent.neq Ent.eqG hd hx hy
theorem o_eqMsg {t' : TypeId} {x y : Operand} {a b : Msg} (hd : dOk nt d = true) (hx : evalO T x = some a.av) (hy : evalO T y = some b.av) : OpOK Try.prog E nt ops ⟨d, .binOp .eql 36 x y t', ty, pos, af, gd⟩ T H [] ⟨.v (.bool (decide (a = b))), []⟩ := o_eqd dMsg Msg.eql Msg.eqG hd hx hy
theorem o_neMsg {t' : TypeId} {x y : Operand} {a b : Msg} (hd : dOk nt d = true) (hx : evalO T x = some a.av) (hy : evalO T y = some b.av) : OpOK Try.prog E nt ops ⟨d, .binOp .neq 36 x y t', ty, pos, af, gd⟩ T H [] ⟨.v (.bool (decide (a ≠ b))), []⟩ := o_ned dMsg Msg.neq Msg.eqG hd hx hy
/-- append onto a row of images -/
theorem o_app {α : Type} {f : α → AV} {s x : Operand} {t tx e : TypeId} {es bytes : Nat} {ea : Bool} {tk : Nat} {xs zs : List α} {src : AV} (hd : dOk nt d = true) (hs : tabT.ti t = some (.sl e es bytes ea)) (hx : evalO T s = some (.sl (some tk) es (xs.map f))) (hg : H tk = some (.tail e es xs.length))
    (hy : evalO T x = some src) (hsrc : SrcOf Try.prog tx es src (zs.map f)) (hlen : (xs.length + zs.length) * bytes ≤ 140737488355328) (hlen2 : xs.length + zs.length ≤ 9223372036854775807) :
    OpOK Try.prog E nt ops ⟨d, .call { callee := .builtin .append, args := #[s, x], argTypes := #[t, tx] }, ty, pos, af, gd⟩ T H [tk] ⟨.sl (some tk) es ((xs ++ zs).map f), [(tk, .tail e es (xs ++ zs).length)]⟩ := by
  have := ok_append tabT (E := E) (ops := ops) (H := H) (ty := ty) (pos := pos) (af := af) (gd := gd) hd hs hx (by rw [List.length_map]; exact hg) hy hsrc (by simpa using hlen) (by simpa using hlen2)
  rw [← List.map_append, List.length_map, List.length_map, ← List.length_append] at this
  exact this
/-- one element more: a new row of one is laid, and appended -/
theorem o_one {α : Type} (f : α → AV) (x : α) {tx e : TypeId} {es bytes : Nat} {ea : Bool} {tok : Option Nat} (hs : tabT.ti tx = some (.sl e es bytes ea)) : SrcOf Try.prog tx es (.sl tok es [f x]) ([x].map f) := src_sl tabT hs
theorem o_many {α : Type} {f : α → AV} {xs : List α} {tx e : TypeId} {es bytes : Nat} {ea : Bool} {tok : Option Nat} (hs : tabT.ti tx = some (.sl e es bytes ea)) : SrcOf Try.prog tx es (.sl tok es (xs.map f)) (xs.map f) := src_sl tabT hs
theorem o_none {α : Type} {f : α → AV} {tx e : TypeId} {es bytes n : Nat} {ea : Bool} (hs : tabT.ti tx = some (.sl e es bytes ea)) : SrcOf Try.prog tx n (.v (.slice none 0 0)) (([] : List α).map f) := src_nil tabT hs
theorem o_app0 {α : Type} {f : α → AV} {s x : Operand} {t tx e : TypeId} {es bytes : Nat} {ea : Bool} {tk : Nat} {zs : List α} {src : AV} (hd : dOk nt (some tk) = true) (hs : tabT.ti t = some (.sl e (es + 1) bytes ea)) (hx : evalO T s = some (.v (.slice none 0 0))) (hg : H tk = none)
    (hy : evalO T x = some src) (hsrc : SrcOf Try.prog tx (es + 1) src (zs.map f)) (hlen : zs.length * bytes ≤ 140737488355328) (hlen2 : zs.length ≤ 9223372036854775807) :
    OpOK Try.prog E nt ops ⟨some tk, .call { callee := .builtin .append, args := #[s, x], argTypes := #[t, tx] }, ty, pos, af, gd⟩ T H [] ⟨.sl (some tk) (es + 1) (zs.map f), [(tk, .tail e (es + 1) zs.length)]⟩ := by
  have := ok_append_nil tabT (E := E) (ops := ops) (H := H) (ty := ty) (pos := pos) (af := af) (gd := gd) hd hs hx hg hy hsrc (by simpa using hlen) (by simpa using hlen2)
  rw [List.length_map] at this
  exact this
/-- a new row -/
theorem o_bsl {t e : TypeId} {es bytes len : Nat} {ea : Bool} {l : List (Nat × Operand)} {vs : List (Nat × AV)} {z : AV} {out ys : List AV} {g : Nat} (hz : ZeroOk Try.prog e z) (hd : dOk nt (some g) = true) (hs : tabT.ti t = some (.sl e (es + 1) bytes ea)) (hv : partsA T l = some vs) (ho : fillA vs (List.replicate (len + 1) z) = some out) (hg : H g = none)
    (hw : ∀ H', WkL H' out ys) (hsz : out.all (fun x => Nat.beq (sizeA x) (es + 1)) = true) (hlen : out.length = len + 1) (hsmall : Nat.ble ((len + 1) * (es + 1)) 16777216 = true) :
    OpOK Try.prog E nt ops ⟨some g, .buildSlice t (len + 1) l.toArray, ty, pos, af, gd⟩ T H [] ⟨.sl (some g) (es + 1) ys, [(g, .tail e (es + 1) (len + 1))]⟩ := ok_bslice tabT hd hs hz hv ho hg hw hsz hlen hsmall
def seqA (T : Nat → Option AV) (n : Nat) : Nat → List (Nat × Operand) → Option (List AV)
  | _, [] => some []
  | i, (j, x) :: l => bif Nat.beq i j then (match evalO T x, seqA T n (i + 1) l with
    | some v, some vs => bif notTup v && Nat.beq (sizeA v) n then some (v :: vs) else none
    | _, _ => none) else none
theorem seqA_fill {T : Nat → Option AV} {n : Nat} {z : AV} (hz : sizeA z = n) : ∀ (l : List (Nat × Operand)) (i : Nat) (out pre : List AV), seqA T n i l = some out → pre.length = i → ∃ vs, partsA T l = some vs ∧ fillA vs (pre ++ List.replicate out.length z) = some (pre ++ out)
  | [], i, out, pre, h, hp => by
    simp only [seqA] at h; injection h with h; subst h
    exact ⟨[], rfl, by simp [fillA]⟩
  | (j, x) :: l, i, out, pre, h, hp => by
    simp only [seqA] at h
    cases hb : Nat.beq i j with
    | false => rw [hb] at h; cases h
    | true =>
      have := Nat.eq_of_beq_eq_true hb
      subst this
      rw [hb] at h
      simp only [cond_true] at h
      cases hx : evalO T x with
      | none => rw [hx] at h; cases h
      | some v =>
        cases hl : seqA T n (i + 1) l with
        | none => rw [hx, hl] at h; cases h
        | some us =>
          rw [hx, hl] at h
          cases hc : (notTup v && Nat.beq (sizeA v) n) with
          | false => simp only [hc, cond_false] at h; cases h
          | true =>
            simp only [hc, cond_true, Option.some.injEq] at h
            subst h
            rw [Bool.and_eq_true] at hc
            obtain ⟨vs, k1, k2⟩ := seqA_fill hz l (i + 1) us (pre ++ [v]) hl (by simp [hp])
            refine ⟨(i, v) :: vs, by simp only [partsA, hx, k1, hc.1, cond_true], ?_⟩
            have e1 : (pre ++ List.replicate (v :: us).length z)[i]? = some z := by
              rw [List.getElem?_append_right (by omega)]
              simp [hp]
            have e2 : (pre ++ List.replicate (v :: us).length z).set i v = (pre ++ [v]) ++ List.replicate us.length z := by
              rw [List.set_append_right _ _ (by omega), hp, Nat.sub_self, List.length_cons, List.replicate_succ, List.set_cons_zero]
              simp
            have e3 : Nat.beq (sizeA v) (sizeA z) = true := by rw [hz]; exact hc.2
            simp only [fillA, e1, e3, cond_true, e2, k2]
            simp
theorem seqA_size {T : Nat → Option AV} {n : Nat} : ∀ (l : List (Nat × Operand)) (i : Nat) (out : List AV), seqA T n i l = some out → out.all (fun x => Nat.beq (sizeA x) n) = true
  | [], i, out, h => by simp only [seqA] at h; injection h with h; subst h; rfl
  | (j, x) :: l, i, out, h => by
    simp only [seqA] at h
    cases hb : Nat.beq i j with
    | false => rw [hb] at h; cases h
    | true =>
      rw [hb] at h
      simp only [cond_true] at h
      cases hx : evalO T x with
      | none => rw [hx] at h; cases h
      | some v =>
        cases hl : seqA T n (i + 1) l with
        | none => rw [hx, hl] at h; cases h
        | some us =>
          rw [hx, hl] at h
          cases hc : (notTup v && Nat.beq (sizeA v) n) with
          | false => simp only [hc, cond_false] at h; cases h
          | true =>
            simp only [hc, cond_true, Option.some.injEq] at h
            subst h
            rw [Bool.and_eq_true] at hc
            simp only [List.all_cons, hc.2, seqA_size l (i + 1) us hl, Bool.and_self]
def weakA : List AV → Option (List AV)
  | [] => some []
  | .sl _ n zs :: l => match weakA l with
    | some us => some (.sl none n zs :: us)
    | none => none
  | x :: l => match dataA x, weakA l with
    | true, some us => some (x :: us)
    | _, _ => none
theorem weakA_wkl {H : Hp} : ∀ (l us : List AV), weakA l = some us → WkL H l us
  | [], us, h => by simp only [weakA] at h; injection h with h; subst h; exact .nil
  | x :: l, us, h => by
    unfold weakA at h
    split at h
    · rename_i h0; cases h0
    · rename_i a n zs l' h0
      injection h0 with h1 h2
      subst h1; subst h2
      split at h
      · rename_i us' h'
        injection h with h; subst h
        exact .cons Wk.tok (weakA_wkl _ _ h')
      · cases h
    · rename_i x' l' hne h0
      injection h0 with h1 h2
      subst h1; subst h2
      split at h
      · rename_i us' hx h'
        injection h with h; subst h
        exact .cons (Wk.data hx) (weakA_wkl _ _ h')
      · cases h
/-- a new row, by its elements one by one -/
theorem o_bsll {t e : TypeId} {es bytes len : Nat} {ea : Bool} {l : List (Nat × Operand)} {z : AV} {out ys : List AV} {g : Nat} (hz : ZeroOk Try.prog e z) (hzs : sizeA z = es + 1) (hd : dOk nt (some g) = true) (hs : tabT.ti t = some (.sl e (es + 1) bytes ea)) (hv : seqA T (es + 1) 0 l = some out) (hg : H g = none)
    (hlen : out.length = len + 1) (hsmall : Nat.ble ((len + 1) * (es + 1)) 16777216 = true) (hw : weakA out = some ys) :
    OpOK Try.prog E nt ops ⟨some g, .buildSlice t (len + 1) l.toArray, ty, pos, af, gd⟩ T H [] ⟨.sl (some g) (es + 1) ys, [(g, .tail e (es + 1) (len + 1))]⟩ := by
  obtain ⟨vs, k1, k2⟩ := seqA_fill hzs l 0 out [] hv rfl
  simp only [List.nil_append, hlen] at k2
  exact o_bsl hz hd hs k1 k2 hg (fun _ => weakA_wkl _ _ hw) (seqA_size l 0 out hv) hlen hsmall
/-- cuts of images -/
theorem o_cut {α : Type} {f : α → AV} {t e : TypeId} {es bytes : Nat} {ea : Bool} {x : Operand} {lo hi : Option Operand} {tok : Option Nat} {xs : List α} {l h : Nat} (hd : dOk nt d = true) (hs : tabT.ti t = some (.sl e es bytes ea)) (hx : evalO T x = some (.sl tok es (xs.map f))) (hlo : BndA T lo 0 l) (hhi : BndA T hi xs.length h) (h1 : l ≤ h) (h2 : h ≤ xs.length) :
    OpOK Try.prog E nt ops ⟨d, .slice t x lo hi none, ty, pos, af, gd⟩ T H [] ⟨.sl none es (((xs.take h).drop l).map f), []⟩ := by
  have := ok_cut tabT (E := E) (ops := ops) (H := H) (ty := ty) (pos := pos) (af := af) (gd := gd) (mx := none) (m := 0) hd hs hx hlo (by simpa using hhi) (.inl ⟨rfl, rfl⟩) h1 (by simpa using h2)
  rwa [← List.map_take, ← List.map_drop] at this
theorem o_cutl {α : Type} {f : α → AV} {t e : TypeId} {es bytes : Nat} {ea : Bool} {x lo : Operand} {tok : Option Nat} {xs : List α} {k : IntKind} {l : Nat} (hd : dOk nt d = true) (hs : tabT.ti t = some (.sl e es bytes ea)) (hx : evalO T x = some (.sl tok es (xs.map f))) (hlo : evalO T lo = some (.v (.int k (l : Nat)))) (h1 : l ≤ xs.length) :
    OpOK Try.prog E nt ops ⟨d, .slice t x (some lo) none none, ty, pos, af, gd⟩ T H [] ⟨.sl none es ((xs.drop l).map f), []⟩ := by
  have := o_cut (E := E) (ops := ops) (H := H) (ty := ty) (pos := pos) (af := af) (gd := gd) (lo := some lo) (hi := none) (h := xs.length) hd hs hx (bnd_nat hlo) bnd_none h1 (Nat.le_refl _)
  rwa [List.take_length] at this
theorem o_cuth {α : Type} {f : α → AV} {t e : TypeId} {es bytes : Nat} {ea : Bool} {x hi : Operand} {tok : Option Nat} {xs : List α} {k : IntKind} {h : Nat} (hd : dOk nt d = true) (hs : tabT.ti t = some (.sl e es bytes ea)) (hx : evalO T x = some (.sl tok es (xs.map f))) (hhi : evalO T hi = some (.v (.int k (h : Nat)))) (h1 : h ≤ xs.length) :
    OpOK Try.prog E nt ops ⟨d, .slice t x none (some hi) none, ty, pos, af, gd⟩ T H [] ⟨.sl none es ((xs.take h).map f), []⟩ := by
  have := o_cut (E := E) (ops := ops) (H := H) (ty := ty) (pos := pos) (af := af) (gd := gd) (lo := none) (hi := some hi) (l := 0) hd hs hx bnd_none (bnd_nat hhi) (Nat.zero_le _) h1
  rwa [List.drop_zero] at this
theorem o_cutlh {α : Type} {f : α → AV} {t e : TypeId} {es bytes : Nat} {ea : Bool} {x lo hi : Operand} {tok : Option Nat} {xs : List α} {k k' : IntKind} {l h : Nat} (hd : dOk nt d = true) (hs : tabT.ti t = some (.sl e es bytes ea)) (hx : evalO T x = some (.sl tok es (xs.map f))) (hlo : evalO T lo = some (.v (.int k (l : Nat)))) (hhi : evalO T hi = some (.v (.int k' (h : Nat)))) (h1 : l ≤ h) (h2 : h ≤ xs.length) :
    OpOK Try.prog E nt ops ⟨d, .slice t x (some lo) (some hi) none, ty, pos, af, gd⟩ T H [] ⟨.sl none es (((xs.take h).drop l).map f), []⟩ := o_cut hd hs hx (bnd_nat hlo) (bnd_nat hhi) h1 h2
end
/-- a row of none -/
theorem none_arr {α : Type} (f : Nat → α) : Array.map f (Array.range 0) = #[] := Array.eq_empty_of_size_eq_zero (by simp)
theorem run_buildSlice0 (w : World) (t e : TypeId) (ie : TypeInfo) (hu : Try.prog.underlying t = some (.slice e)) (hie : Try.prog.info? e = some ie) : (Instr.buildSlice t 0 #[]).run Try.prog w = .ok (.slice (some ⟨w.heap.size, 0, none⟩) 0 0) (w.alloc (.cells #[] e)) := by
  simp [Instr.buildSlice, run_underlying hu, sizeOf, typeInfo, hie, newRow, Instr.fill]
  rw [none_arr]
section
variable {E : Env} {nt : Nat} {ops : Array Oper} {T : Nat → Option AV} {H : Hp} {d : Option Nat} {ty : TypeId} {pos : String} {af : Array Edge} {gd : Option (Nat × Bool)}
theorem o_bsl0 {t e : TypeId} {es bytes : Nat} {ea : Bool} {g : Nat} (hd : dOk nt (some g) = true) (hs : tabT.ti t = some (.sl e (es + 1) bytes ea)) (hg : H g = none) :
    OpOK Try.prog E nt ops ⟨some g, .buildSlice t 0 #[], ty, pos, af, gd⟩ T H [] ⟨.sl (some g) (es + 1) [], [(g, .tail e (es + 1) 0)]⟩ :=
  ok_eff hd fun B T' H' a w r ht hh hw' => by
    have hg' : H' g = none := (hw' (g, .tail e (es + 1) 0) (by simp)).trans hg
    obtain ⟨_, hu, hte, i, zv, z1, z2, z3, z4, z5⟩ := tabT.ok t _ hs
    obtain ⟨k1, k2⟩ := r.newRow (e := e) (k := 0) (cap := 0) (ys := []) (cs := []) hg' (Nat.succ_pos es) (by simp [Rdu]) rfl (by simp) (Nat.zero_le _) (by unfold maxLen; omega)
    have hrun := run_buildSlice0 w t e i hu z1
    have hfin : (execOp a.eval ⟨some g, .buildSlice t 0 #[], ty, pos, af, gd⟩).run Try.prog w = .ok (.value (.slice (some ⟨w.heap.size, 0, none⟩) 0 0)) (w.alloc (.cells #[] e)) := by simp [execOp, hrun]
    exact ⟨_, _, _, hfin, k1, by rw [Rdv_not (by simp)]; exact ⟨_, k2, rfl⟩⟩
/-- appended to a row of none -/
theorem o_appn {α : Type} {f : α → AV} {s x : Operand} {t tx e : TypeId} {es bytes : Nat} {ea : Bool} {tk : Nat} {zs : List α} {src : AV} (hd : dOk nt d = true) (hs : tabT.ti t = some (.sl e es bytes ea)) (hx : evalO T s = some (.sl (some tk) es [])) (hg : H tk = some (.tail e es 0))
    (hy : evalO T x = some src) (hsrc : SrcOf Try.prog tx es src (zs.map f)) (hlen : zs.length * bytes ≤ 140737488355328) (hlen2 : zs.length ≤ 9223372036854775807) :
    OpOK Try.prog E nt ops ⟨d, .call { callee := .builtin .append, args := #[s, x], argTypes := #[t, tx] }, ty, pos, af, gd⟩ T H [tk] ⟨.sl (some tk) es (zs.map f), [(tk, .tail e es zs.length)]⟩ := by
  have := o_app (f := f) (xs := []) (zs := zs) (E := E) (ops := ops) (H := H) (ty := ty) (pos := pos) (af := af) (gd := gd) hd hs hx hg hy hsrc (by simpa using hlen) (by simpa using hlen2)
  rwa [List.nil_append] at this
end
theorem Go2.re {E : Env} {nt : Nat} {T : List (Nat × AV)} {H : List (Nat × Bx)} (s : Nat) {x y : AV} (hs : look s T = some x) (h : ∀ U w B H v, Rdv U w B H x v → Rdv U w B H y v) : Go2 E nt ⟨T, H⟩ ⟨(s, y) :: T, H⟩ := fun B a w r => by
  refine ⟨B, r.nt, r.df, fun s' z hx => ?_, r.box, r.non, r.inj, r.left⟩
  have eT : St.t ⟨(s, y) :: T, H⟩ = upd (St.t ⟨T, H⟩) s y := look_cons _ _ _
  rw [eT] at hx
  by_cases h' : s' = s
  · subst h'
    rw [upd_same] at hx
    injection hx with hx
    subst hx
    obtain ⟨v, h1, h2⟩ := r.tmp s' _ hs
    exact ⟨v, h1, h _ _ _ _ _ h2⟩
  · rw [upd_ne _ _ h'] at hx
    exact r.tmp s' z hx
/-- a slice that will not be appended to any more -/
theorem Go2.weak {E : Env} {nt : Nat} {T : List (Nat × AV)} {H : List (Nat × Bx)} (s : Nat) {tok : Option Nat} {n : Nat} {xs : List AV} (hs : look s T = some (.sl tok n xs)) : Go2 E nt ⟨T, H⟩ ⟨(s, .sl none n xs) :: T, H⟩ := Go2.re s hs fun U w B H v h => by
  rw [Rdv_not (by simp)] at h ⊢
  obtain ⟨c, h1, h2⟩ := h
  simp only [Rd] at h1
  obtain ⟨A, cap, rfl, k2, k3, k4, _⟩ := h1
  refine ⟨[_], ?_, h2⟩
  simp only [Rd]
  exact ⟨A, cap, rfl, k2, k3, k4, fun t ht => by cases ht⟩
/-- nil, as a slice of none -/
theorem Go2.nil {E : Env} {nt : Nat} {T : List (Nat × AV)} {H : List (Nat × Bx)} (s n : Nat) (hs : look s T = some (.v (.slice none 0 0))) : Go2 E nt ⟨T, H⟩ ⟨(s, .sl none n []) :: T, H⟩ := Go2.re s hs fun U w B H v h => by
  rw [Rdv_v] at h
  rw [Rdv_not (by simp), h.2]
  refine ⟨[_], ?_, rfl⟩
  simp only [Rd]
  exact ⟨none, 0, rfl, Nat.le_refl _, by unfold maxLen; omega, fun h => absurd h (by simp), fun t ht => by cases ht⟩
/-- a contract's reading of what is handed in -/
theorem sl_in {α : Type} {av : α → AV} {arr : α → Array Value} {n : Nat} (enc : EncOk arr n) (hrdu : ∀ (U : Uns) (w : World) (xs : List α) {c : List Value}, Rdu U w n (xs.map av) B0 H0 c ↔ c = flat arr xs) {w : World} {xs : List α} {v : Value} (h : Sl arr n w v xs) : Rdv (fun _ _ => False) w B0 H0 (.sl none n (xs.map av)) v := by
  obtain ⟨A, cap, rfl, h2, h3, h4⟩ := h
  rw [Rdv_not (by simp)]
  refine ⟨[_], ?_, rfl⟩
  simp only [Rd, List.length_map]
  refine ⟨A, cap, rfl, h2, h3, fun h0 => ?_, fun t ht => by cases ht⟩
  obtain ⟨b, off, k1, k2, k3⟩ := h4.row enc h0
  refine ⟨b, off, flat arr xs, k1, k3, fun _ _ _ h => h, (hrdu _ _ xs).2 rfl⟩
theorem ints_in {w : World} {xs : List Int} {v : Value} (h : Sl ie 1 w v xs) : Rdv (fun _ _ => False) w B0 H0 (.sl none 1 (xs.map intA)) v :=
  sl_in ie_ok (fun U w xs c => by rw [flat_cells (arr := ie) (cell := fun n => Value.int .i64 n) (fun _ => rfl)]; exact rdu_cells (cell := fun n => .int .i64 n) (fun _ => rfl) (fun _ => rfl) xs) h
theorem bytes_in {w : World} {xs : List (BitVec 8)} {v : Value} (h : Sl be 1 w v xs) : Rdv (fun _ _ => False) w B0 H0 (.sl none 1 (xs.map byteA)) v :=
  sl_in be_ok (fun U w xs c => by rw [flat_cells (arr := be) (cell := fun x => Value.int .u8 (B8 x)) (fun _ => rfl)]; exact rdu_cells (cell := fun x => .int .u8 (B8 x)) (fun _ => rfl) (fun _ => rfl) xs) h
theorem DT.sl_in {α : Type} (D : DT α) {w : World} {xs : List α} {v : Value} (h : Sl D.arr D.n w v xs) : Rdv (fun _ _ => False) w B0 H0 (.sl none D.n (xs.map D.av)) v := Proofs.Ytigbkhjcboecjaa.sl_in D.enc (fun U w xs c => D.rdu xs) h
theorem int_in {w : World} {n : Int} : Rdv (fun _ _ => False) w B0 H0 (intA n) (.int .i64 n) := Rdv_v.2 ⟨rfl, rfl⟩
theorem rdp_cons {U : Uns} {w : World} {x : AV} {xs : List AV} {v : Value} {us : List Value} (hn : notTup x = true) (h : Rdv U w B0 H0 x v) (h2 : Rdp U w xs B0 H0 us) : Rdp U w (x :: xs) B0 H0 (v :: us) := by
  rw [Rdv_not (notTup_ne hn)] at h
  obtain ⟨c, h1, h3⟩ := h
  simp only [Rdp]
  exact ⟨c, us, by rw [h3], h1, h2⟩
theorem rdp_nil' {U : Uns} {w : World} : Rdp U w [] B0 H0 [] := by simp [Rdp]
/-- a law's walk out of its reading -/
theorem law_of {f : FuncId} {args : List AV} {vs : List Value} {w : World} (h : AFn Try.prog f args (boolA true)) (hr : Rdp (fun _ _ => False) w args B0 H0 vs) : Calls Try.prog f vs.toArray w (Is w (.bool true)) :=
  (h _ w vs hr).mono fun e w' ⟨v, h1, h2, h3⟩ => by
    have := (Rdv_v.1 h2).2
    subst this
    exact ⟨h1, h3⟩
/-- a number that is none below 0, by reckoning -/
def natOf : Int → Option Nat
  | .ofNat n => some n
  | .negSucc _ => none
theorem natOf_eq : ∀ {x : Int} {n : Nat}, natOf x = some n → x = (n : Int)
  | .ofNat m, n, h => by simp only [natOf] at h; injection h with h; subst h; rfl
  | .negSucc _, n, h => by simp [natOf] at h
def forceA : List AV → Option (List AV)
  | [] => some []
  | x :: l => match forceA l with
    | some us => some (x :: us)
    | none => none
theorem forceA_eq : ∀ {l us : List AV}, forceA l = some us → l = us
  | [], us, h => by simp only [forceA] at h; injection h
  | x :: l, us, h => by
    simp only [forceA] at h
    split at h
    · rename_i us' h'
      injection h with h; subst h
      rw [forceA_eq h']
    · cases h
section
variable {E : Env} {nt : Nat} {ops : Array Oper} {T : Nat → Option AV} {H : Hp} {d : Option Nat} {ty : TypeId} {pos : String} {af : Array Edge} {gd : Option (Nat × Bool)}
theorem o_idx2 {α : Type} {f : α → AV} {x ix : Operand} {t e : TypeId} {es bytes : Nat} {ea : Bool} {tok : Option Nat} {xs : List α} {k : IntKind} {n : Int} {i : Nat} (hd : dOk nt d = true) (hs : tabT.ti t = some (.sl e es bytes ea)) (hx : evalO T x = some (.sl tok es (xs.map f))) (hi : evalO T ix = some (.v (.int k n))) (hn : natOf n = some i)
    (hl : i < xs.length) : OpOK Try.prog E nt ops ⟨d, .indexAddr t x ix, ty, pos, af, gd⟩ T H [] ⟨.ref (f xs[i]), []⟩ := o_idxi i hd hs hx hi (natOf_eq hn) hl
theorem o_cutl2 {α : Type} {f : α → AV} {t e : TypeId} {es bytes : Nat} {ea : Bool} {x lo : Operand} {tok : Option Nat} {xs : List α} {k : IntKind} {n : Int} {l : Nat} (hd : dOk nt d = true) (hs : tabT.ti t = some (.sl e es bytes ea)) (hx : evalO T x = some (.sl tok es (xs.map f))) (hlo : evalO T lo = some (.v (.int k n))) (hn : natOf n = some l) (h1 : l ≤ xs.length) :
    OpOK Try.prog E nt ops ⟨d, .slice t x (some lo) none none, ty, pos, af, gd⟩ T H [] ⟨.sl none es ((xs.drop l).map f), []⟩ := by
  have := natOf_eq hn; subst this
  exact o_cutl hd hs hx hlo h1
theorem o_cuth2 {α : Type} {f : α → AV} {t e : TypeId} {es bytes : Nat} {ea : Bool} {x hi : Operand} {tok : Option Nat} {xs : List α} {k : IntKind} {n : Int} {h : Nat} (hd : dOk nt d = true) (hs : tabT.ti t = some (.sl e es bytes ea)) (hx : evalO T x = some (.sl tok es (xs.map f))) (hhi : evalO T hi = some (.v (.int k n))) (hn : natOf n = some h) (h1 : h ≤ xs.length) :
    OpOK Try.prog E nt ops ⟨d, .slice t x none (some hi) none, ty, pos, af, gd⟩ T H [] ⟨.sl none es ((xs.take h).map f), []⟩ := by
  have := natOf_eq hn; subst this
  exact o_cuth hd hs hx hhi h1
theorem o_idx3 {α : Type} {f : α → AV} {x ix : Operand} {t e : TypeId} {es bytes : Nat} {ea : Bool} {tok : Option Nat} {xs : List α} {k : IntKind} {i : Nat} (hd : dOk nt d = true) (hs : tabT.ti t = some (.sl e es bytes ea)) (hx : evalO T x = some (.sl tok es (xs.map f))) (hi : evalO T ix = some (.v (.int k (@OfNat.ofNat Int i (@instOfNat i)))))
    (hl : @OfNat.ofNat Nat i (instOfNatNat i) < xs.length) : OpOK Try.prog E nt ops ⟨d, .indexAddr t x ix, ty, pos, af, gd⟩ T H [] ⟨.ref (f xs[@OfNat.ofNat Nat i (instOfNatNat i)]), []⟩ := o_idxi i hd hs hx hi rfl hl
theorem o_cutl3 {α : Type} {f : α → AV} {t e : TypeId} {es bytes : Nat} {ea : Bool} {x lo : Operand} {tok : Option Nat} {xs : List α} {k : IntKind} {l : Nat} (hd : dOk nt d = true) (hs : tabT.ti t = some (.sl e es bytes ea)) (hx : evalO T x = some (.sl tok es (xs.map f))) (hlo : evalO T lo = some (.v (.int k (@OfNat.ofNat Int l (@instOfNat l))))) (h1 : @OfNat.ofNat Nat l (instOfNatNat l) ≤ xs.length) :
    OpOK Try.prog E nt ops ⟨d, .slice t x (some lo) none none, ty, pos, af, gd⟩ T H [] ⟨.sl none es ((xs.drop (@OfNat.ofNat Nat l (instOfNatNat l))).map f), []⟩ := o_cutl hd hs hx hlo h1
theorem o_cuth3 {α : Type} {f : α → AV} {t e : TypeId} {es bytes : Nat} {ea : Bool} {x hi : Operand} {tok : Option Nat} {xs : List α} {k : IntKind} {h : Nat} (hd : dOk nt d = true) (hs : tabT.ti t = some (.sl e es bytes ea)) (hx : evalO T x = some (.sl tok es (xs.map f))) (hhi : evalO T hi = some (.v (.int k (@OfNat.ofNat Int h (@instOfNat h))))) (h1 : @OfNat.ofNat Nat h (instOfNatNat h) ≤ xs.length) :
    OpOK Try.prog E nt ops ⟨d, .slice t x none (some hi) none, ty, pos, af, gd⟩ T H [] ⟨.sl none es ((xs.take (@OfNat.ofNat Nat h (instOfNatNat h))).map f), []⟩ := o_cuth hd hs hx hhi h1
theorem o_cutlh2 {α : Type} {f : α → AV} {t e : TypeId} {es bytes : Nat} {ea : Bool} {x lo hi : Operand} {tok : Option Nat} {xs : List α} {k k' : IntKind} {m n : Int} {l h : Nat} (hd : dOk nt d = true) (hs : tabT.ti t = some (.sl e es bytes ea)) (hx : evalO T x = some (.sl tok es (xs.map f))) (hlo : evalO T lo = some (.v (.int k m))) (hm : natOf m = some l) (hhi : evalO T hi = some (.v (.int k' n))) (hn : natOf n = some h) (h1 : l ≤ h) (h2 : h ≤ xs.length) :
    OpOK Try.prog E nt ops ⟨d, .slice t x (some lo) (some hi) none, ty, pos, af, gd⟩ T H [] ⟨.sl none es (((xs.take h).drop l).map f), []⟩ := by
  have := natOf_eq hn; subst this
  have := natOf_eq hm; subst this
  exact o_cutlh hd hs hx hlo hhi h1 h2
theorem o_bld {t n : Nat} {fs : List (Nat × Nat × Bool)} {l : List (Nat × Operand)} {vs : List (Nat × AV)} {zs out out' : List AV} {z : AV} (hz : ZeroOk Try.prog t z) (hze : z = .agg n zs) (hd : dOk nt d = true) (hs : tabT.ti t = some (.st n fs)) (hv : partsA T l = some vs) (ho : fillA vs zs = some out) (hf : forceA out = some out') (hp : placesOk 0 zs fs = true) :
    OpOK Try.prog E nt ops ⟨d, .build t l.toArray, ty, pos, af, gd⟩ T H [] ⟨.agg n out', []⟩ := by
  subst hze
  have := forceA_eq hf; subst this
  exact ok_build tabT hd hs hz hv ho hp
end
theorem Wri {P : Program} {E : Env} {nt : Nat} {ops : Array Oper} {l : List Oper} {T : List (Nat × AV)} {H : List (Nat × Bx)} {rs : List Rec} {K : St → List Rec → Prop} (s : Nat) {a : Int} (b : Int) (hs : look s T = some (.v (.int .i64 a))) (he : a = b) {o : Oper} (h : AWops P E nt ops (o :: l) ⟨(s, .v (.int .i64 b)) :: T, H⟩ rs K) : AWops P E nt ops (o :: l) ⟨T, H⟩ rs K :=
  Was s (.v (.int .i64 b)) (by rw [hs, he]) h
/-- what a result is -/
theorem res_of {P : Program} {S : St} {t : Nat} {x : AV} (hx : S.t t = some x) (hn : notTup x = true) (hd : dataA x = true) : Res1 P S (.tmp t) x := ⟨x, hx, notTup_ne hn, Wk.data hd⟩
theorem res_sl {P : Program} {S : St} {t n : Nat} {tok : Option Nat} {xs : List AV} (hx : S.t t = some (.sl tok n xs)) : Res1 P S (.tmp t) (.sl none n xs) := ⟨_, hx, notTup_ne rfl, Wk.tok⟩
theorem res_nil {P : Program} {S : St} {t n : Nat} (hx : S.t t = some (.v (.slice none 0 0))) : Res1 P S (.tmp t) (.sl none n []) := ⟨_, hx, notTup_ne rfl, Wk.nil⟩
theorem res_var {S : St} {a t g : Nat} {x : AV} (ha : S.t a = some (.ptr g 0 [])) (hg : S.h g = some (.var x)) (hs : tabT.sa t = some (isAggA x, sizeA x)) (hd : dataA x = true) : Res1 Try.prog S (.cell a t) x := ⟨g, x, ha, hg, tabT.tyOf hs, Wk.data hd⟩
theorem fin {P : Program} {S : St} {rv : List ResultVar} {ys : List AV} (h : ResL P S rv ys) : (Exit.ret = Exit.normal ∨ Exit.ret = Exit.ret) ∧ ResL P S rv ys := ⟨.inr rfl, h⟩
theorem finn {P : Program} {S : St} {rv : List ResultVar} {ys : List AV} (h : ResL P S rv ys) : (Exit.normal = Exit.normal ∨ Exit.normal = Exit.ret) ∧ ResL P S rv ys := ⟨.inl rfl, h⟩
end Go.Proofs.Ytigbkhjcboecjaa
