/-
  M3: several texts as one: AbsTac, AbsStep, AbsWord, AbsNode, AbsArr, AbsFnv, KeyPure, FanPure, KeyRefs, KeyWalks, NumPure, NumWalks, VlWalks, VlProg, Law00Walks, Afn, Msg, BufPure, BufPlace. No condition beyond those that each theorem states.
-/
import Derived.Test.YtkpjkfjlpiidbaaM2
import Derived.Lib.Bytealg
namespace Go.Proofs.Ytkpjkfjlpiidbaa
open Go Go.RowKit
set_option linter.unusedVariables false
set_option linter.unusedSimpArgs false
set_option maxRecDepth 100000

section
variable {P : Program} {E : Env} {nt : Nat} {S : St} {Q : Exit → St → Prop} {K : St → Prop}
theorem thenA_n (h : K S) : thenA K Q .normal S := h
theorem thenA_r (h : Q .ret S) : thenA K Q .ret S := h
theorem thenA_e {i : Nat} (h : Q (.exit i) S) : thenA K Q (.exit i) S := h
theorem blockA_n {i : Nat} (h : Q .normal S) : inBlockA i Q .normal S := h
theorem blockA_r {i : Nat} (h : Q .ret S) : inBlockA i Q .ret S := h
theorem blockA_h {i : Nat} (h : Q .normal S) : inBlockA i Q (.exit i) S := by simp only [inBlockA, if_true]; exact h
theorem blockA_e {i j : Nat} (hn : Nat.beq j i = false) (h : Q (.exit j) S) : inBlockA i Q (.exit j) S := by
  have : j ≠ i := fun e => by subst e; simp at hn
  simp only [inBlockA, if_neg this]; exact h
theorem scopeA_n (h : Q .normal S) : noGotoA Q .normal S := h
theorem scopeA_r (h : Q .ret S) : noGotoA Q .ret S := h
theorem scopeA_e {i : Nat} (h : Q (.exit i) S) : noGotoA Q (.exit i) S := h
theorem AW_reg {id : Nat} {l : List Oper} (h : AWops P E nt l.toArray l S [] (fun S' _ => Q .normal S')) : AW P E nt (.region id l.toArray false) S Q := AW_region (by simpa using h)
theorem AW_drw {id : Nat} {l : List Oper} (hm : P.follows .mixedOrders = true) (h : AWops P E nt l.toArray l S [] (fun S' rs => orderOk l.toArray rs = true ∧ Q .normal S')) : AW P E nt (.region id l.toArray true) S Q := AW_draw hm (by simpa using h)
theorem AW_t {c : Operand} {x y : Code} (hc : evalO S.t c = some (.v (.bool true))) (h : AW P E nt x S Q) : AW P E nt (.cond c x y) S Q := AW_cond true hc (fun _ => h) (fun h => by cases h)
theorem AW_f {c : Operand} {x y : Code} (hc : evalO S.t c = some (.v (.bool false))) (h : AW P E nt y S Q) : AW P E nt (.cond c x y) S Q := AW_cond false hc (fun h => by cases h) (fun _ => h)
theorem AW_yes {c : Operand} {x y : Code} {p : Prop} [Decidable p] (hc : evalO S.t c = some (.v (.bool (decide p)))) (hp : p) (h : AW P E nt x S Q) : AW P E nt (.cond c x y) S Q := AW_t (by rw [hc, decide_eq_true hp]) h
theorem AW_no {c : Operand} {x y : Code} {p : Prop} [Decidable p] (hc : evalO S.t c = some (.v (.bool (decide p)))) (hp : ¬ p) (h : AW P E nt y S Q) : AW P E nt (.cond c x y) S Q := AW_f (by rw [hc, decide_eq_false hp]) h
theorem AW_if {c : Operand} {x y : Code} {p : Prop} [Decidable p] (hc : evalO S.t c = some (.v (.bool (decide p)))) (h1 : p → AW P E nt x S Q) (h2 : ¬ p → AW P E nt y S Q) : AW P E nt (.cond c x y) S Q :=
  AW_cond _ hc (fun h => h1 (of_decide_eq_true h)) (fun h => h2 (of_decide_eq_false h))
theorem AW_is {c : Operand} {x y : Code} {b : Bool} (v : Bool) (hc : evalO S.t c = some (.v (.bool b))) (hb : b = v) (h : AW P E nt (if v then x else y) S Q) : AW P E nt (.cond c x y) S Q := by
  subst hb; exact AW_cond b hc (fun e => by subst e; exact h) (fun e => by subst e; exact h)
end
/-- a test's way, by what it came to -/
def CondB (P : Program) (E : Env) (nt : Nat) (b : Bool) (x y : Code) (S : St) (Q : Exit → St → Prop) : Prop := AW P E nt (if b then x else y) S Q
section
variable {P : Program} {E : Env} {nt : Nat} {S : St} {Q : Exit → St → Prop} {x y : Code}
theorem AW_c {c : Operand} {b : Bool} (hc : evalO S.t c = some (.v (.bool b))) (h : CondB P E nt b x y S Q) : AW P E nt (.cond c x y) S Q := AW_is b hc rfl h
theorem cb_t (h : AW P E nt x S Q) : CondB P E nt true x y S Q := h
theorem cb_f (h : AW P E nt y S Q) : CondB P E nt false x y S Q := h
theorem cb_yes {p : Prop} [Decidable p] (hp : p) (h : AW P E nt x S Q) : CondB P E nt (decide p) x y S Q := by
  unfold CondB; rw [decide_eq_true hp]; exact h
theorem cb_no {p : Prop} [Decidable p] (hp : ¬ p) (h : AW P E nt y S Q) : CondB P E nt (decide p) x y S Q := by
  unfold CondB; rw [decide_eq_false hp]; exact h
theorem cb_if {p : Prop} [Decidable p] (h1 : p → AW P E nt x S Q) (h2 : ¬ p → AW P E nt y S Q) : CondB P E nt (decide p) x y S Q := by
  by_cases hp : p
  · exact cb_yes hp (h1 hp)
  · exact cb_no hp (h2 hp)
theorem cb_b {b : Bool} (h1 : b = true → AW P E nt x S Q) (h2 : b = false → AW P E nt y S Q) : CondB P E nt b x y S Q := by
  cases b
  · exact h2 rfl
  · exact h1 rfl
theorem cb_is {b : Bool} (v : Bool) (hb : b = v) (h : CondB P E nt v x y S Q) : CondB P E nt b x y S Q := by subst hb; exact h
end
attribute [local irreducible] OpOK
theorem mixed : Try.prog.follows .mixedOrders = true := by kernel_rfl
section
variable {E : Env} {nt : Nat} {ops : Array Oper} {T : Nat → Option AV} {H : Hp} {d : Option Nat} {ty : TypeId} {pos : String} {af : Array Edge} {gd : Option (Nat × Bool)}
theorem o_len {x : Operand} {t e es bytes : Nat} {ea : Bool} {tok : Option Nat} {n : Nat} {xs : List AV} (hs : tabT.ti t = some (.sl e es bytes ea)) (hd : dOk nt d = true) (hx : evalO T x = some (.sl tok n xs)) :
    OpOK Try.prog E nt ops ⟨d, .call { callee := .builtin .len, args := #[x], argTypes := #[t] }, ty, pos, af, gd⟩ T H [] ⟨.v (.int .i64 xs.length), []⟩ := ok_len (tabT.ok t _ hs).2.1 hd hx
theorem o_lenm {α : Type} {f : α → AV} {x : Operand} {t e es bytes : Nat} {ea : Bool} {tok : Option Nat} {n : Nat} {xs : List α} (hs : tabT.ti t = some (.sl e es bytes ea)) (hd : dOk nt d = true) (hx : evalO T x = some (.sl tok n (xs.map f))) :
    OpOK Try.prog E nt ops ⟨d, .call { callee := .builtin .len, args := #[x], argTypes := #[t] }, ty, pos, af, gd⟩ T H [] ⟨.v (.int .i64 xs.length), []⟩ := by
  have := o_len (E := E) (ops := ops) (H := H) (ty := ty) (pos := pos) (af := af) (gd := gd) hs hd hx
  rwa [List.length_map] at this
theorem o_len0 {x : Operand} {t e es bytes : Nat} {ea : Bool} (hs : tabT.ti t = some (.sl e es bytes ea)) (hd : dOk nt d = true) (hx : evalO T x = some (.v (.slice none 0 0))) :
    OpOK Try.prog E nt ops ⟨d, .call { callee := .builtin .len, args := #[x], argTypes := #[t] }, ty, pos, af, gd⟩ T H [] ⟨.v (.int .i64 0), []⟩ := ok_len_nil (tabT.ok t _ hs).2.1 hd hx
theorem o_lens {x : Operand} {t e es bytes : Nat} {ea : Bool} {g off n len cap : Nat} {p : List Nat} (hs : tabT.ti t = some (.sl e es bytes ea)) (hd : dOk nt d = true) (hx : evalO T x = some (.seg g off n p len cap)) :
    OpOK Try.prog E nt ops ⟨d, .call { callee := .builtin .len, args := #[x], argTypes := #[t] }, ty, pos, af, gd⟩ T H [] ⟨.v (.int .i64 len), []⟩ := ok_len_seg (tabT.ok t _ hs).2.1 hd hx
theorem o_lent {x : Operand} {s : ByteArray} (hd : dOk nt d = true) (hx : evalO T x = some (.v (.string s))) :
    OpOK Try.prog E nt ops ⟨d, .call { callee := .builtin .len, args := #[x], argTypes := #[9] }, ty, pos, af, gd⟩ T H [] ⟨.v (.int .i64 s.size), []⟩ := ok_len_str Try.underlying9 hd hx
theorem o_add {t t' : TypeId} {x y : Operand} {a b : Int} (hd : dOk nt d = true) (hx : evalO T x = some (.v (.int .i64 a))) (hy : evalO T y = some (.v (.int .i64 b))) (h : -9223372036854775808 ≤ a + b ∧ a + b ≤ 9223372036854775807) : OpOK Try.prog E nt ops ⟨d, .binOp .add t x y t', ty, pos, af, gd⟩ T H [] ⟨.v (.int .i64 (a + b)), []⟩ := ok_add hd hx hy (i64_add h)
theorem o_add1 {t t' : TypeId} {x y : Operand} {a : Nat} (hd : dOk nt d = true) (hx : evalO T x = some (.v (.int .i64 (a : Nat)))) (hy : evalO T y = some (.v (.int .i64 1))) (h : a + 1 ≤ 9223372036854775807) : OpOK Try.prog E nt ops ⟨d, .binOp .add t x y t', ty, pos, af, gd⟩ T H [] ⟨.v (.int .i64 ((a + 1 : Nat) : Int)), []⟩ := o_add hd hx hy (by omega)
theorem o_addn {t t' : TypeId} {x y : Operand} {a b : Nat} (hd : dOk nt d = true) (hx : evalO T x = some (.v (.int .i64 (a : Nat)))) (hy : evalO T y = some (.v (.int .i64 (b : Nat)))) (h : a + b ≤ 9223372036854775807) : OpOK Try.prog E nt ops ⟨d, .binOp .add t x y t', ty, pos, af, gd⟩ T H [] ⟨.v (.int .i64 ((a + b : Nat) : Int)), []⟩ := o_add hd hx hy (by omega)
theorem o_sub {t t' : TypeId} {x y : Operand} {a b : Int} (hd : dOk nt d = true) (hx : evalO T x = some (.v (.int .i64 a))) (hy : evalO T y = some (.v (.int .i64 b))) (h : -9223372036854775808 ≤ a - b ∧ a - b ≤ 9223372036854775807) : OpOK Try.prog E nt ops ⟨d, .binOp .sub t x y t', ty, pos, af, gd⟩ T H [] ⟨.v (.int .i64 (a - b)), []⟩ := ok_sub hd hx hy (i64_sub h)
theorem o_mul {t t' : TypeId} {x y : Operand} {a b : Int} (hd : dOk nt d = true) (hx : evalO T x = some (.v (.int .i64 a))) (hy : evalO T y = some (.v (.int .i64 b))) (h : -9223372036854775808 ≤ a * b ∧ a * b ≤ 9223372036854775807) : OpOK Try.prog E nt ops ⟨d, .binOp .mul t x y t', ty, pos, af, gd⟩ T H [] ⟨.v (.int .i64 (a * b)), []⟩ := ok_mul hd hx hy (i64_mul h)
theorem o_quo {t t' : TypeId} {x y : Operand} {a b : Int} (hd : dOk nt d = true) (hx : evalO T x = some (.v (.int .i64 a))) (hy : evalO T y = some (.v (.int .i64 b))) (h : 0 ≤ a ∧ a ≤ 9223372036854775807 ∧ 1 ≤ b) : OpOK Try.prog E nt ops ⟨d, .binOp .quo t x y t', ty, pos, af, gd⟩ T H [] ⟨.v (.int .i64 (a / b)), []⟩ := ok_quo hd hx hy (by omega) (i64_quo h)
theorem o_rem {t t' : TypeId} {x y : Operand} {a b : Int} (hd : dOk nt d = true) (hx : evalO T x = some (.v (.int .i64 a))) (hy : evalO T y = some (.v (.int .i64 b))) (h : 0 ≤ a ∧ 1 ≤ b) : OpOK Try.prog E nt ops ⟨d, .binOp .rem t x y t', ty, pos, af, gd⟩ T H [] ⟨.v (.int .i64 (a % b)), []⟩ := ok_rem hd hx hy (by omega) (i64_rem h.1)
theorem o_box {e : TypeId} {x : Operand} {z : AV} {g : Nat} (hd : dOk nt (some g) = true) (hx : evalO T x = some z) (hnt : notTup z = true) (hg : H g = none) : OpOK Try.prog E nt ops ⟨some g, .box e x, ty, pos, af, gd⟩ T H [] ⟨.ptr g 0 [], [(g, .var z)]⟩ := ok_box hd hx hnt hg


theorem o_alloc {e : TypeId} {z : AV} {g : Nat} (hz : ZeroOk Try.prog e z) (hd : dOk nt (some g) = true) (hg : H g = none) : OpOK Try.prog E nt ops ⟨some g, .alloc e, ty, pos, af, gd⟩ T H [] ⟨.ptr g 0 [], [(g, .var z)]⟩ := by
  have h := @ok_alloc Try.prog E nt ops T H (some g) ty pos af gd e z g hd hz hg
  with_reducible exact h
/-- an element of a slice that is a list's image -/
theorem o_idx {α : Type} {f : α → AV} {x ix : Operand} {t e : TypeId} {es bytes : Nat} {ea : Bool} {tok : Option Nat} {xs : List α} {k : IntKind} {i : Nat} (hd : dOk nt d = true) (hs : tabT.ti t = some (.sl e es bytes ea)) (hx : evalO T x = some (.sl tok es (xs.map f))) (hi : evalO T ix = some (.v (.int k (i : Nat))))
    (hl : i < xs.length) : OpOK Try.prog E nt ops ⟨d, .indexAddr t x ix, ty, pos, af, gd⟩ T H [] ⟨.ref (f xs[i]), []⟩ :=
  ok_idx_sl tabT hd hs hx hi (Int.natCast_nonneg i) (by simp [hl])
theorem o_idxi {α : Type} {f : α → AV} {x ix : Operand} {t e : TypeId} {es bytes : Nat} {ea : Bool} {tok : Option Nat} {xs : List α} {k : IntKind} {n : Int} (i : Nat) (hd : dOk nt d = true) (hs : tabT.ti t = some (.sl e es bytes ea)) (hx : evalO T x = some (.sl tok es (xs.map f))) (hi : evalO T ix = some (.v (.int k n)))
    (hn : n = (i : Int)) (hl : i < xs.length) : OpOK Try.prog E nt ops ⟨d, .indexAddr t x ix, ty, pos, af, gd⟩ T H [] ⟨.ref (f xs[i]), []⟩ := by
  subst hn; exact o_idx hd hs hx hi hl
end
theorem wkl0 {H : Hp} : WkL H [] [] := .nil
theorem wkd {H : Hp} {x : AV} {xs ys : List AV} (hx : dataA x = true) (h : WkL H xs ys) : WkL H (x :: xs) (x :: ys) := .cons (Wk.data hx) h
theorem wkt {H : Hp} {t : Option Nat} {n : Nat} {zs : List AV} {xs ys : List AV} (h : WkL H xs ys) : WkL H (.sl t n zs :: xs) (.sl none n zs :: ys) := .cons Wk.tok h
theorem wkn {H : Hp} {n : Nat} {xs ys : List AV} (h : WkL H xs ys) : WkL H (.v (.slice none 0 0) :: xs) (.sl none n [] :: ys) := .cons Wk.nil h
section
variable {E : Env} {nt : Nat} {ops : Array Oper} {T : Nat → Option AV} {H : Hp} {d : Option Nat} {ty : TypeId} {pos : String} {af : Array Edge} {gd : Option (Nat × Bool)}
theorem o_call0 {f : FuncId} {fn : Func} {l : List Operand} {ats : Array TypeId} {xs ys : List AV} {y : AV} (hf : Try.prog.funcs[f]? = some fn) (hc : AFn Try.prog f ys y) (hb : fn.body.isSome = true) (hnm : (fn.name == "runtime.NumGoroutine") = false) (hd : dOk nt d = true)
    (hx : l.map (evalO T) = xs.map some) (hw : ∀ H', WkL H' xs ys) (hnt : xs.all notTup = true) : OpOK Try.prog E nt ops ⟨d, .call { callee := .value (.func f), args := l.toArray, argTypes := ats }, ty, pos, af, gd⟩ T H [] ⟨y, []⟩ :=
  ok_call hd hf hb hnm (by simpa using hx) hc hw hnt
def argsA (T : Nat → Option AV) : List Operand → Option (List AV)
  | [] => some []
  | x :: l => match evalO T x, argsA T l with
    | some v, some vs => some (v :: vs)
    | _, _ => none
theorem argsA_map {T : Nat → Option AV} : ∀ {l : List Operand} {xs : List AV}, argsA T l = some xs → l.map (evalO T) = xs.map some
  | [], xs, h => by simp only [argsA] at h; injection h with h; subst h; rfl
  | x :: l, xs, h => by
    simp only [argsA] at h
    split at h
    · rename_i v vs h1 h2
      injection h with h; subst h
      simp only [List.map_cons, h1, argsA_map h2]
    · cases h
theorem o_call {f : FuncId} {fn : Func} {l : List Operand} {ats : Array TypeId} {xs ys : List AV} {y : AV} (hf : Try.prog.funcs[f]? = some fn) (hc : AFn Try.prog f ys y) (hb : fn.body.isSome = true) (hnm : (fn.name == "runtime.NumGoroutine") = false) (hd : dOk nt d = true)
    (hx : argsA T l = some xs) (hw : ∀ H', WkL H' xs ys) (hnt : xs.all notTup = true) : OpOK Try.prog E nt ops ⟨d, .call { callee := .value (.func f), args := l.toArray, argTypes := ats }, ty, pos, af, gd⟩ T H [] ⟨y, []⟩ := o_call0 hf hc hb hnm hd (argsA_map hx) hw hnt
end
section
variable {E : Env} {nt : Nat} {ops : Array Oper} {T : Nat → Option AV} {H : Hp} {d : Option Nat} {ty : TypeId} {pos : String} {af : Array Edge} {gd : Option (Nat × Bool)}
theorem o_minn {x y : Operand} {t t' : TypeId} {k : IntKind} {p q : Nat} (hd : dOk nt d = true) (hx : evalO T x = some (.v (.int k (p : Nat)))) (hy : evalO T y = some (.v (.int k (q : Nat)))) :
    OpOK Try.prog E nt ops ⟨d, .call { callee := .builtin .min, args := #[x, y], argTypes := #[t, t'] }, ty, pos, af, gd⟩ T H [] ⟨.v (.int k (min p q : Nat)), []⟩ := by
  have h := ok_min (P := Try.prog) (E := E) (ops := ops) (H := H) (ty := ty) (pos := pos) (af := af) (gd := gd) (t := t) (t' := t') hd hx hy
  have e : (if (q : Int) < p then (q : Int) else p) = ((min p q : Nat) : Int) := by split <;> omega
  rwa [e] at h
end
/-- where a walk stands (for looking alone) -/
def StuckOp (T : List (Nat × AV)) (H : List (Nat × Bx)) (o : Op) (gd : Option (Nat × Bool)) : Prop := False
theorem stuck_op {P : Program} {E : Env} {nt : Nat} {ops : Array Oper} {l : List Oper} {T : List (Nat × AV)} {H : List (Nat × Bx)} {rs : List Rec} {K : St → List Rec → Prop} {o : Oper} (h : StuckOp T H o.op o.guard) : AWops P E nt ops (o :: l) ⟨T, H⟩ rs K := h.elim
def StuckC (b : Bool) (S : St) : Prop := False
theorem stuck_c {P : Program} {E : Env} {nt : Nat} {b : Bool} {x y : Code} {S : St} {Q : Exit → St → Prop} (h : StuckC b S) : CondB P E nt b x y S Q := h.elim
def StuckW (S : St) : Prop := False
theorem stuck_w {P : Program} {E : Env} {nt : Nat} {x : Code} {S : St} {Q : Exit → St → Prop} (h : StuckW S) : AW P E nt x S Q := h.elim
theorem b_nt : true = !false := rfl
theorem b_nf : false = !true := rfl
section
variable {E : Env} {nt : Nat} {ops : Array Oper} {T : Nat → Option AV} {H : Hp} {d : Option Nat} {ty : TypeId} {pos : String} {af : Array Edge} {gd : Option (Nat × Bool)}
theorem o_eqd {α : Type} [DecidableEq α] (D : DT α) (heq : ∀ (a b : α) (w : World), (binOp .eql D.t (.agg (D.arr a)) (.agg (D.arr b))).run Try.prog w = .ok (.bool (decide (a = b))) w) (hg : Try.prog.eqGuardType Try.prog.depth D.t = false) {t' : TypeId} {x y : Operand} {a b : α} (hd : dOk nt d = true) (hx : evalO T x = some (D.av a)) (hy : evalO T y = some (D.av b)) :
    OpOK Try.prog E nt ops ⟨d, .binOp .eql D.t x y t', ty, pos, af, gd⟩ T H [] ⟨.v (.bool (decide (a = b))), []⟩ :=
  ok_val hd fun B T' H' A w r ht hh => ⟨.bool (decide (a = b)), by
    have h1 := D.rdv.1 (r.eval ((ht x (by simp [Op.operands])).trans hx))
    have h2 := D.rdv.1 (r.eval ((ht y (by simp [Op.operands])).trans hy))
    simp only [execOp, h1, h2, Sem.run_bind, heq a b w]
    simp [eqGuard, hg, heq a b w], by rw [Rdv_v]; exact ⟨rfl, rfl⟩⟩
theorem o_ned {α : Type} [DecidableEq α] (D : DT α) (heq : ∀ (a b : α) (w : World), (binOp .neq D.t (.agg (D.arr a)) (.agg (D.arr b))).run Try.prog w = .ok (.bool (!decide (a = b))) w) (hg : Try.prog.eqGuardType Try.prog.depth D.t = false) {t' : TypeId} {x y : Operand} {a b : α} (hd : dOk nt d = true) (hx : evalO T x = some (D.av a)) (hy : evalO T y = some (D.av b)) :
    OpOK Try.prog E nt ops ⟨d, .binOp .neq D.t x y t', ty, pos, af, gd⟩ T H [] ⟨.v (.bool (decide (a ≠ b))), []⟩ :=
  ok_val hd fun B T' H' A w r ht hh => ⟨.bool (decide (a ≠ b)), by
    have h1 := D.rdv.1 (r.eval ((ht x (by simp [Op.operands])).trans hx))
    have h2 := D.rdv.1 (r.eval ((ht y (by simp [Op.operands])).trans hy))
    have e : (!decide (a = b)) = decide (a ≠ b) := by simp
    simp only [execOp, h1, h2, Sem.run_bind, heq a b w, e]
    simp [eqGuard, hg, heq a b w], by rw [Rdv_v]; exact ⟨rfl, rfl⟩⟩
theorem o_eqKey {t' : TypeId} {x y : Operand} {a b : Key} (hd : dOk nt d = true) (hx : evalO T x = some a.av) (hy : evalO T y = some b.av) : OpOK Try.prog E nt ops ⟨d, .binOp .eql 40 x y t', ty, pos, af, gd⟩ T H [] ⟨.v (.bool (decide (a = b))), []⟩ := o_eqd dKey Key.eql Key.eqG hd hx hy
theorem o_neKey {t' : TypeId} {x y : Operand} {a b : Key} (hd : dOk nt d = true) (hx : evalO T x = some a.av) (hy : evalO T y = some b.av) : OpOK Try.prog E nt ops ⟨d, .binOp .neq 40 x y t', ty, pos, af, gd⟩ T H [] ⟨.v (.bool (decide (a ≠ b))), []⟩ := o_ned dKey Key.neq Key.eqG hd hx hy
theorem o_eqVl {t' : TypeId} {x y : Operand} {a b : Vl} (hd : dOk nt d = true) (hx : evalO T x = some a.av) (hy : evalO T y = some b.av) : OpOK Try.prog E nt ops ⟨d, .binOp .eql 43 x y t', ty, pos, af, gd⟩ T H [] ⟨.v (.bool (decide (a = b))), []⟩ := o_eqd dVl Vl.eql Vl.eqG hd hx hy
theorem o_neVl {t' : TypeId} {x y : Operand} {a b : Vl} (hd : dOk nt d = true) (hx : evalO T x = some a.av) (hy : evalO T y = some b.av) : OpOK Try.prog E nt ops ⟨d, .binOp .neq 43 x y t', ty, pos, af, gd⟩ T H [] ⟨.v (.bool (decide (a ≠ b))), []⟩ := o_ned dVl Vl.neq Vl.eqG hd hx hy
theorem o_eqEnt {t' : TypeId} {x y : Operand} {a b : Ent} (hd : dOk nt d = true) (hx : evalO T x = some a.av) (hy : evalO T y = some b.av) : OpOK Try.prog E nt ops ⟨d, .binOp .eql 45 x y t', ty, pos, af, gd⟩ T H [] ⟨.v (.bool (decide (a = b))), []⟩ := o_eqd dEnt Ent.eql Ent.eqG hd hx hy
theorem o_neEnt {t' : TypeId} {x y : Operand} {a b : Ent} (hd : dOk nt d = true) (hx : evalO T x = some a.av) (hy : evalO T y = some b.av) : OpOK Try.prog E nt ops ⟨d, .binOp .neq 45 x y t', ty, pos, af, gd⟩ T H [] ⟨.v (.bool (decide (a ≠ b))), []⟩ := o_ned dEnt Ent.neq Ent.eqG hd hx hy
theorem o_eqMsg {t' : TypeId} {x y : Operand} {a b : Msg} (hd : dOk nt d = true) (hx : evalO T x = some a.av) (hy : evalO T y = some b.av) : OpOK Try.prog E nt ops ⟨d, .binOp .eql 48 x y t', ty, pos, af, gd⟩ T H [] ⟨.v (.bool (decide (a = b))), []⟩ := o_eqd dMsg Msg.eql Msg.eqG hd hx hy
theorem o_neMsg {t' : TypeId} {x y : Operand} {a b : Msg} (hd : dOk nt d = true) (hx : evalO T x = some a.av) (hy : evalO T y = some b.av) : OpOK Try.prog E nt ops ⟨d, .binOp .neq 48 x y t', ty, pos, af, gd⟩ T H [] ⟨.v (.bool (decide (a ≠ b))), []⟩ := o_ned dMsg Msg.neq Msg.eqG hd hx hy
/-- append onto a row of images -/
theorem o_app {α : Type} {f : α → AV} {s x : Operand} {t tx e : TypeId} {es bytes : Nat} {ea : Bool} {tk : Nat} {xs zs : List α} {src : AV} (hd : dOk nt d = true) (hs : tabT.ti t = some (.sl e es bytes ea)) (hx : evalO T s = some (.sl (some tk) es (xs.map f))) (hg : H tk = some (.tail e es xs.length))
    (hy : evalO T x = some src) (hsrc : SrcOf Try.prog tx es src (zs.map f)) (hlen : (xs.length + zs.length) * bytes ≤ 140737488355328) (hlen2 : xs.length + zs.length ≤ 9223372036854775807) :
    OpOK Try.prog E nt ops ⟨d, .call { callee := .builtin .append, args := #[s, x], argTypes := #[t, tx] }, ty, pos, af, gd⟩ T H [tk] ⟨.sl (some tk) es ((xs ++ zs).map f), [(tk, .tail e es (xs ++ zs).length)]⟩ := by
  have := ok_append tabT (E := E) (ops := ops) (H := H) (ty := ty) (pos := pos) (af := af) (gd := gd) hd hs hx (by rw [List.length_map]; exact hg) hy hsrc (by simpa using hlen) (by simpa using hlen2)
  rw [← List.map_append, List.length_map, List.length_map, ← List.length_append] at this
  exact this
/-- one element more: a new row of one is laid, and appended -/
theorem o_one {α : Type} (f : α → AV) (x : α) {tx e : TypeId} {es bytes : Nat} {ea : Bool} {tok : Option Nat} (hs : tabT.ti tx = some (.sl e es bytes ea)) : SrcOf Try.prog tx es (.sl tok es [f x]) ([x].map f) := src_sl tabT hs
theorem o_many {α : Type} {f : α → AV} {xs : List α} {tx e : TypeId} {es bytes : Nat} {ea : Bool} {tok : Option Nat} (hs : tabT.ti tx = some (.sl e es bytes ea)) : SrcOf Try.prog tx es (.sl tok es (xs.map f)) (xs.map f) := src_sl tabT hs
theorem o_none {α : Type} {f : α → AV} {tx e : TypeId} {es bytes n : Nat} {ea : Bool} (hs : tabT.ti tx = some (.sl e es bytes ea)) : SrcOf Try.prog tx n (.v (.slice none 0 0)) (([] : List α).map f) := src_nil tabT hs
theorem o_app0 {α : Type} {f : α → AV} {s x : Operand} {t tx e : TypeId} {es bytes : Nat} {ea : Bool} {tk : Nat} {zs : List α} {src : AV} (hd : dOk nt (some tk) = true) (hs : tabT.ti t = some (.sl e (es + 1) bytes ea)) (hx : evalO T s = some (.v (.slice none 0 0))) (hg : H tk = none)
    (hy : evalO T x = some src) (hsrc : SrcOf Try.prog tx (es + 1) src (zs.map f)) (hlen : zs.length * bytes ≤ 140737488355328) (hlen2 : zs.length ≤ 9223372036854775807) :
    OpOK Try.prog E nt ops ⟨some tk, .call { callee := .builtin .append, args := #[s, x], argTypes := #[t, tx] }, ty, pos, af, gd⟩ T H [] ⟨.sl (some tk) (es + 1) (zs.map f), [(tk, .tail e (es + 1) zs.length)]⟩ := by
  have := ok_append_nil tabT (E := E) (ops := ops) (H := H) (ty := ty) (pos := pos) (af := af) (gd := gd) hd hs hx hg hy hsrc (by simpa using hlen) (by simpa using hlen2)
  rw [List.length_map] at this
  exact this
/-- a new row -/
theorem o_bsl {t e : TypeId} {es bytes len : Nat} {ea : Bool} {l : List (Nat × Operand)} {vs : List (Nat × AV)} {z : AV} {out ys : List AV} {g : Nat} (hz : ZeroOk Try.prog e z) (hd : dOk nt (some g) = true) (hs : tabT.ti t = some (.sl e (es + 1) bytes ea)) (hv : partsA T l = some vs) (ho : fillA vs (List.replicate (len + 1) z) = some out) (hg : H g = none)
    (hw : ∀ H', WkL H' out ys) (hsz : out.all (fun x => Nat.beq (sizeA x) (es + 1)) = true) (hlen : out.length = len + 1) (hsmall : Nat.ble ((len + 1) * (es + 1)) 16777216 = true) :
    OpOK Try.prog E nt ops ⟨some g, .buildSlice t (len + 1) l.toArray, ty, pos, af, gd⟩ T H [] ⟨.sl (some g) (es + 1) ys, [(g, .tail e (es + 1) (len + 1))]⟩ := ok_bslice tabT hd hs hz hv ho hg hw hsz hlen hsmall
def seqA (T : Nat → Option AV) (n : Nat) : Nat → List (Nat × Operand) → Option (List AV)
  | _, [] => some []
  | i, (j, x) :: l => bif Nat.beq i j then (match evalO T x, seqA T n (i + 1) l with
    | some v, some vs => bif notTup v && Nat.beq (sizeA v) n then some (v :: vs) else none
    | _, _ => none) else none
theorem seqA_fill {T : Nat → Option AV} {n : Nat} {z : AV} (hz : sizeA z = n) : ∀ (l : List (Nat × Operand)) (i : Nat) (out pre : List AV), seqA T n i l = some out → pre.length = i → ∃ vs, partsA T l = some vs ∧ fillA vs (pre ++ List.replicate out.length z) = some (pre ++ out)
  | [], i, out, pre, h, hp => by
    simp only [seqA] at h; injection h with h; subst h
    exact ⟨[], rfl, by simp [fillA]⟩
  | (j, x) :: l, i, out, pre, h, hp => by
    simp only [seqA] at h
    cases hb : Nat.beq i j with
    | false => rw [hb] at h; cases h
    | true =>
      have := Nat.eq_of_beq_eq_true hb
      subst this
      rw [hb] at h
      simp only [cond_true] at h
      cases hx : evalO T x with
      | none => rw [hx] at h; cases h
      | some v =>
        cases hl : seqA T n (i + 1) l with
        | none => rw [hx, hl] at h; cases h
        | some us =>
          rw [hx, hl] at h
          cases hc : (notTup v && Nat.beq (sizeA v) n) with
          | false => simp only [hc, cond_false] at h; cases h
          | true =>
            simp only [hc, cond_true, Option.some.injEq] at h
            subst h
            rw [Bool.and_eq_true] at hc
            obtain ⟨vs, k1, k2⟩ := seqA_fill hz l (i + 1) us (pre ++ [v]) hl (by simp [hp])
            refine ⟨(i, v) :: vs, by simp only [partsA, hx, k1, hc.1, cond_true], ?_⟩
            have e1 : (pre ++ List.replicate (v :: us).length z)[i]? = some z := by
              rw [List.getElem?_append_right (by omega)]
              simp [hp]
            have e2 : (pre ++ List.replicate (v :: us).length z).set i v = (pre ++ [v]) ++ List.replicate us.length z := by
              rw [List.set_append_right _ _ (by omega), hp, Nat.sub_self, List.length_cons, List.replicate_succ, List.set_cons_zero]
              simp
            have e3 : Nat.beq (sizeA v) (sizeA z) = true := by rw [hz]; exact hc.2
            simp only [fillA, e1, e3, cond_true, e2, k2]
            simp
theorem seqA_size {T : Nat → Option AV} {n : Nat} : ∀ (l : List (Nat × Operand)) (i : Nat) (out : List AV), seqA T n i l = some out → out.all (fun x => Nat.beq (sizeA x) n) = true
  | [], i, out, h => by simp only [seqA] at h; injection h with h; subst h; rfl
  | (j, x) :: l, i, out, h => by
    simp only [seqA] at h
    cases hb : Nat.beq i j with
    | false => rw [hb] at h; cases h
    | true =>
      rw [hb] at h
      simp only [cond_true] at h
      cases hx : evalO T x with
      | none => rw [hx] at h; cases h
      | some v =>
        cases hl : seqA T n (i + 1) l with
        | none => rw [hx, hl] at h; cases h
        | some us =>
          rw [hx, hl] at h
          cases hc : (notTup v && Nat.beq (sizeA v) n) with
          | false => simp only [hc, cond_false] at h; cases h
          | true =>
            simp only [hc, cond_true, Option.some.injEq] at h
            subst h
            rw [Bool.and_eq_true] at hc
            simp only [List.all_cons, hc.2, seqA_size l (i + 1) us hl, Bool.and_self]
mutual
/-- a value that may still be added to, or that bears such ones, as one that is not -/
def weakV : AV → Option AV
  | .sl _ n zs => some (.sl none n zs)
  | .agg n fs => match weakA fs with
    | some us => some (.agg n us)
    | none => none
  | _ => none
def weakA : List AV → Option (List AV)
  | [] => some []
  | x :: l => match dataA x with
    | true => match weakA l with
      | some us => some (x :: us)
      | none => none
    | false => match weakV x with
      | some u => match weakA l with
        | some us => some (u :: us)
        | none => none
      | none => none
end
mutual
theorem weakV_wk {H : Hp} : ∀ (x u : AV), weakV x = some u → Wk H x u
  | .sl _ n zs, u, h => by
    simp only [weakV, Option.some.injEq] at h
    subst h
    exact Wk.tok
  | .agg n fs, u, h => by
    unfold weakV at h
    split at h
    · rename_i us e
      injection h with h; subst h
      exact Wk.agg (weakA_wkl _ _ e)
    · cases h
  | .v _, _, h | .arr _ _ _, _, h | .ptr _ _ _, _, h | .ref _, _, h | .seg _ _ _ _ _ _, _, h | .tup _, _, h | .fn _ _ _, _, h | .ifc _ _, _, h | .own _ _ _ _, _, h => by simp [weakV] at h
theorem weakA_wkl {H : Hp} : ∀ (l us : List AV), weakA l = some us → WkL H l us
  | [], us, h => by simp only [weakA] at h; injection h with h; subst h; exact .nil
  | x :: l, us, h => by
    unfold weakA at h
    split at h
    · rename_i hx
      split at h
      · rename_i us' h'
        injection h with h; subst h
        exact .cons (Wk.data hx) (weakA_wkl _ _ h')
      · cases h
    · split at h
      · rename_i u hu
        split at h
        · rename_i us' h'
          injection h with h; subst h
          exact .cons (weakV_wk _ _ hu) (weakA_wkl _ _ h')
        · cases h
      · cases h
end
/-- a new row, by its elements one by one -/
theorem o_bsll {t e : TypeId} {es bytes len : Nat} {ea : Bool} {l : List (Nat × Operand)} {z : AV} {out ys : List AV} {g : Nat} (hz : ZeroOk Try.prog e z) (hzs : sizeA z = es + 1) (hd : dOk nt (some g) = true) (hs : tabT.ti t = some (.sl e (es + 1) bytes ea)) (hv : seqA T (es + 1) 0 l = some out) (hg : H g = none)
    (hlen : out.length = len + 1) (hsmall : Nat.ble ((len + 1) * (es + 1)) 16777216 = true) (hw : weakA out = some ys) :
    OpOK Try.prog E nt ops ⟨some g, .buildSlice t (len + 1) l.toArray, ty, pos, af, gd⟩ T H [] ⟨.sl (some g) (es + 1) ys, [(g, .tail e (es + 1) (len + 1))]⟩ := by
  obtain ⟨vs, k1, k2⟩ := seqA_fill hzs l 0 out [] hv rfl
  simp only [List.nil_append, hlen] at k2
  exact o_bsl hz hd hs k1 k2 hg (fun _ => weakA_wkl _ _ hw) (seqA_size l 0 out hv) hlen hsmall
/-- cuts of images -/
theorem o_cut {α : Type} {f : α → AV} {t e : TypeId} {es bytes : Nat} {ea : Bool} {x : Operand} {lo hi : Option Operand} {tok : Option Nat} {xs : List α} {l h : Nat} (hd : dOk nt d = true) (hs : tabT.ti t = some (.sl e es bytes ea)) (hx : evalO T x = some (.sl tok es (xs.map f))) (hlo : BndA T lo 0 l) (hhi : BndA T hi xs.length h) (h1 : l ≤ h) (h2 : h ≤ xs.length) :
    OpOK Try.prog E nt ops ⟨d, .slice t x lo hi none, ty, pos, af, gd⟩ T H [] ⟨.sl none es (((xs.take h).drop l).map f), []⟩ := by
  have := ok_cut tabT (E := E) (ops := ops) (H := H) (ty := ty) (pos := pos) (af := af) (gd := gd) (mx := none) (m := 0) hd hs hx hlo (by simpa using hhi) (.inl ⟨rfl, rfl⟩) h1 (by simpa using h2)
  rwa [← List.map_take, ← List.map_drop] at this
theorem o_cutl {α : Type} {f : α → AV} {t e : TypeId} {es bytes : Nat} {ea : Bool} {x lo : Operand} {tok : Option Nat} {xs : List α} {k : IntKind} {l : Nat} (hd : dOk nt d = true) (hs : tabT.ti t = some (.sl e es bytes ea)) (hx : evalO T x = some (.sl tok es (xs.map f))) (hlo : evalO T lo = some (.v (.int k (l : Nat)))) (h1 : l ≤ xs.length) :
    OpOK Try.prog E nt ops ⟨d, .slice t x (some lo) none none, ty, pos, af, gd⟩ T H [] ⟨.sl none es ((xs.drop l).map f), []⟩ := by
  have := o_cut (E := E) (ops := ops) (H := H) (ty := ty) (pos := pos) (af := af) (gd := gd) (lo := some lo) (hi := none) (h := xs.length) hd hs hx (bnd_nat hlo) bnd_none h1 (Nat.le_refl _)
  rwa [List.take_length] at this
theorem o_cuth {α : Type} {f : α → AV} {t e : TypeId} {es bytes : Nat} {ea : Bool} {x hi : Operand} {tok : Option Nat} {xs : List α} {k : IntKind} {h : Nat} (hd : dOk nt d = true) (hs : tabT.ti t = some (.sl e es bytes ea)) (hx : evalO T x = some (.sl tok es (xs.map f))) (hhi : evalO T hi = some (.v (.int k (h : Nat)))) (h1 : h ≤ xs.length) :
    OpOK Try.prog E nt ops ⟨d, .slice t x none (some hi) none, ty, pos, af, gd⟩ T H [] ⟨.sl none es ((xs.take h).map f), []⟩ := by
  have := o_cut (E := E) (ops := ops) (H := H) (ty := ty) (pos := pos) (af := af) (gd := gd) (lo := none) (hi := some hi) (l := 0) hd hs hx bnd_none (bnd_nat hhi) (Nat.zero_le _) h1
  rwa [List.drop_zero] at this
theorem o_cutlh {α : Type} {f : α → AV} {t e : TypeId} {es bytes : Nat} {ea : Bool} {x lo hi : Operand} {tok : Option Nat} {xs : List α} {k k' : IntKind} {l h : Nat} (hd : dOk nt d = true) (hs : tabT.ti t = some (.sl e es bytes ea)) (hx : evalO T x = some (.sl tok es (xs.map f))) (hlo : evalO T lo = some (.v (.int k (l : Nat)))) (hhi : evalO T hi = some (.v (.int k' (h : Nat)))) (h1 : l ≤ h) (h2 : h ≤ xs.length) :
    OpOK Try.prog E nt ops ⟨d, .slice t x (some lo) (some hi) none, ty, pos, af, gd⟩ T H [] ⟨.sl none es (((xs.take h).drop l).map f), []⟩ := o_cut hd hs hx (bnd_nat hlo) (bnd_nat hhi) h1 h2
end
/-- a row of none -/
theorem none_arr {α : Type} (f : Nat → α) : Array.map f (Array.range 0) = #[] := Array.eq_empty_of_size_eq_zero (by simp)
theorem run_buildSlice0 (w : World) (t e : TypeId) (ie : TypeInfo) (hu : Try.prog.underlying t = some (.slice e)) (hie : Try.prog.info? e = some ie) : (Instr.buildSlice t 0 #[]).run Try.prog w = .ok (.slice (some ⟨w.heap.size, 0, none⟩) 0 0) (w.alloc (.cells #[] e)) := by
  simp [Instr.buildSlice, run_underlying hu, sizeOf, typeInfo, hie, newRow, Instr.fill]
  rw [none_arr]
section
variable {E : Env} {nt : Nat} {ops : Array Oper} {T : Nat → Option AV} {H : Hp} {d : Option Nat} {ty : TypeId} {pos : String} {af : Array Edge} {gd : Option (Nat × Bool)}
theorem o_bsl0 {t e : TypeId} {es bytes : Nat} {ea : Bool} {g : Nat} (hd : dOk nt (some g) = true) (hs : tabT.ti t = some (.sl e (es + 1) bytes ea)) (hg : H g = none) :
    OpOK Try.prog E nt ops ⟨some g, .buildSlice t 0 #[], ty, pos, af, gd⟩ T H [] ⟨.sl (some g) (es + 1) [], [(g, .tail e (es + 1) 0)]⟩ :=
  ok_eff hd fun B T' H' a w r ht hh hw' => by
    have hg' : H' g = none := (hw' (g, .tail e (es + 1) 0) (by simp)).trans hg
    obtain ⟨_, hu, hte, i, zv, z1, z2, z3, z4, z5⟩ := tabT.ok t _ hs
    obtain ⟨k1, k2⟩ := r.newRow (e := e) (k := 0) (cap := 0) (ys := []) (cs := []) hg' (Nat.succ_pos es) (by simp [Rdu]) rfl (by simp) (Nat.zero_le _) (by unfold maxLen; omega)
    have hrun := run_buildSlice0 w t e i hu z1
    have hfin : (execOp a.eval ⟨some g, .buildSlice t 0 #[], ty, pos, af, gd⟩).run Try.prog w = .ok (.value (.slice (some ⟨w.heap.size, 0, none⟩) 0 0)) (w.alloc (.cells #[] e)) := by simp [execOp, hrun]
    exact ⟨_, _, _, hfin, k1, by rw [Rdv_not (by simp)]; exact ⟨_, k2, rfl⟩⟩
/-- appended to a row of none -/
theorem o_appn {α : Type} {f : α → AV} {s x : Operand} {t tx e : TypeId} {es bytes : Nat} {ea : Bool} {tk : Nat} {zs : List α} {src : AV} (hd : dOk nt d = true) (hs : tabT.ti t = some (.sl e es bytes ea)) (hx : evalO T s = some (.sl (some tk) es [])) (hg : H tk = some (.tail e es 0))
    (hy : evalO T x = some src) (hsrc : SrcOf Try.prog tx es src (zs.map f)) (hlen : zs.length * bytes ≤ 140737488355328) (hlen2 : zs.length ≤ 9223372036854775807) :
    OpOK Try.prog E nt ops ⟨d, .call { callee := .builtin .append, args := #[s, x], argTypes := #[t, tx] }, ty, pos, af, gd⟩ T H [tk] ⟨.sl (some tk) es (zs.map f), [(tk, .tail e es zs.length)]⟩ := by
  have := o_app (f := f) (xs := []) (zs := zs) (E := E) (ops := ops) (H := H) (ty := ty) (pos := pos) (af := af) (gd := gd) hd hs hx hg hy hsrc (by simpa using hlen) (by simpa using hlen2)
  rwa [List.nil_append] at this
end
theorem Go2.re {E : Env} {nt : Nat} {T : List (Nat × AV)} {H : List (Nat × Bx)} (s : Nat) {x y : AV} (hs : look s T = some x) (h : ∀ U w B H v, Rdv U w B H x v → Rdv U w B H y v) : Go2 E nt ⟨T, H⟩ ⟨(s, y) :: T, H⟩ := fun B a w r => by
  refine ⟨B, r.nt, r.df, fun s' z hx => ?_, r.box, r.non, r.inj, r.left, r.keep⟩
  have eT : St.t ⟨(s, y) :: T, H⟩ = upd (St.t ⟨T, H⟩) s y := look_cons _ _ _
  rw [eT] at hx
  by_cases h' : s' = s
  · subst h'
    rw [upd_same] at hx
    injection hx with hx
    subst hx
    obtain ⟨v, h1, h2⟩ := r.tmp s' _ hs
    exact ⟨v, h1, h _ _ _ _ _ h2⟩
  · rw [upd_ne _ _ h'] at hx
    exact r.tmp s' z hx
/-- a slice that will not be appended to any more -/
theorem Go2.weak {E : Env} {nt : Nat} {T : List (Nat × AV)} {H : List (Nat × Bx)} (s : Nat) {tok : Option Nat} {n : Nat} {xs : List AV} (hs : look s T = some (.sl tok n xs)) : Go2 E nt ⟨T, H⟩ ⟨(s, .sl none n xs) :: T, H⟩ := Go2.re s hs fun U w B H v h => by
  rw [Rdv_not (by simp)] at h ⊢
  obtain ⟨c, h1, h2⟩ := h
  simp only [Rd] at h1
  obtain ⟨A, cap, rfl, k2, k3, k4, _⟩ := h1
  refine ⟨[_], ?_, h2⟩
  simp only [Rd]
  exact ⟨A, cap, rfl, k2, k3, k4, fun t ht => by cases ht⟩
/-- nil, as a slice of none -/
theorem Go2.nil {E : Env} {nt : Nat} {T : List (Nat × AV)} {H : List (Nat × Bx)} (s n : Nat) (hs : look s T = some (.v (.slice none 0 0))) : Go2 E nt ⟨T, H⟩ ⟨(s, .sl none n []) :: T, H⟩ := Go2.re s hs fun U w B H v h => by
  rw [Rdv_v] at h
  rw [Rdv_not (by simp), h.2]
  refine ⟨[_], ?_, rfl⟩
  simp only [Rd]
  exact ⟨none, 0, rfl, Nat.le_refl _, by unfold maxLen; omega, fun h => absurd h (by simp), fun t ht => by cases ht⟩
/-- a contract's reading of what is handed in -/
theorem sl_in {α : Type} {av : α → AV} {arr : α → Array Value} {n : Nat} (enc : EncOk arr n) (hrdu : ∀ (U : Uns) (w : World) (xs : List α) {c : List Value}, Rdu U w n (xs.map av) B0 H0 c ↔ c = flat arr xs) {w : World} {xs : List α} {v : Value} (h : Sl arr n w v xs) : Rdv (fun _ _ => False) w B0 H0 (.sl none n (xs.map av)) v := by
  obtain ⟨A, cap, rfl, h2, h3, h4⟩ := h
  rw [Rdv_not (by simp)]
  refine ⟨[_], ?_, rfl⟩
  simp only [Rd, List.length_map]
  refine ⟨A, cap, rfl, h2, h3, fun h0 => ?_, fun t ht => by cases ht⟩
  obtain ⟨b, off, k1, k2, k3⟩ := h4.row enc h0
  refine ⟨b, off, flat arr xs, k1, k3, fun _ _ _ h => h, (hrdu _ _ xs).2 rfl⟩
theorem ints_in {w : World} {xs : List Int} {v : Value} (h : Sl ie 1 w v xs) : Rdv (fun _ _ => False) w B0 H0 (.sl none 1 (xs.map intA)) v :=
  sl_in ie_ok (fun U w xs c => by rw [flat_cells (arr := ie) (cell := fun n => Value.int .i64 n) (fun _ => rfl)]; exact rdu_cells (cell := fun n => .int .i64 n) (fun _ => rfl) (fun _ => rfl) xs) h
theorem bytes_in {w : World} {xs : List (BitVec 8)} {v : Value} (h : Sl be 1 w v xs) : Rdv (fun _ _ => False) w B0 H0 (.sl none 1 (xs.map byteA)) v :=
  sl_in be_ok (fun U w xs c => by rw [flat_cells (arr := be) (cell := fun x => Value.int .u8 (B8 x)) (fun _ => rfl)]; exact rdu_cells (cell := fun x => .int .u8 (B8 x)) (fun _ => rfl) (fun _ => rfl) xs) h
theorem DT.sl_in {α : Type} (D : DT α) {w : World} {xs : List α} {v : Value} (h : Sl D.arr D.n w v xs) : Rdv (fun _ _ => False) w B0 H0 (.sl none D.n (xs.map D.av)) v := Proofs.Ytkpjkfjlpiidbaa.sl_in D.enc (fun U w xs c => D.rdu xs) h
theorem int_in {w : World} {n : Int} : Rdv (fun _ _ => False) w B0 H0 (intA n) (.int .i64 n) := Rdv_v.2 ⟨rfl, rfl⟩
theorem rdp_cons {U : Uns} {w : World} {x : AV} {xs : List AV} {v : Value} {us : List Value} (hn : notTup x = true) (h : Rdv U w B0 H0 x v) (h2 : Rdp U w xs B0 H0 us) : Rdp U w (x :: xs) B0 H0 (v :: us) := by
  rw [Rdv_not (notTup_ne hn)] at h
  obtain ⟨c, h1, h3⟩ := h
  simp only [Rdp]
  exact ⟨c, us, by rw [h3], h1, h2⟩
theorem rdp_nil' {U : Uns} {w : World} : Rdp U w [] B0 H0 [] := by simp [Rdp]
/-- a law's walk out of its reading -/
theorem law_of {f : FuncId} {args : List AV} {vs : List Value} {w : World} (h : AFn Try.prog f args (boolA true)) (hr : Rdp (fun _ _ => False) w args B0 H0 vs) : Calls Try.prog f vs.toArray w (Is w (.bool true)) :=
  (h _ w vs hr).mono fun e w' ⟨v, h1, h2, h3⟩ => by
    have := (Rdv_v.1 h2).2
    subst this
    exact ⟨h1, h3⟩
/-- a number that is none below 0, by reckoning -/
def natOf : Int → Option Nat
  | .ofNat n => some n
  | .negSucc _ => none
theorem natOf_eq : ∀ {x : Int} {n : Nat}, natOf x = some n → x = (n : Int)
  | .ofNat m, n, h => by simp only [natOf] at h; injection h with h; subst h; rfl
  | .negSucc _, n, h => by simp [natOf] at h
def forceA : List AV → Option (List AV)
  | [] => some []
  | x :: l => match forceA l with
    | some us => some (x :: us)
    | none => none
theorem forceA_eq : ∀ {l us : List AV}, forceA l = some us → l = us
  | [], us, h => by simp only [forceA] at h; injection h
  | x :: l, us, h => by
    simp only [forceA] at h
    split at h
    · rename_i us' h'
      injection h with h; subst h
      rw [forceA_eq h']
    · cases h
section
variable {E : Env} {nt : Nat} {ops : Array Oper} {T : Nat → Option AV} {H : Hp} {d : Option Nat} {ty : TypeId} {pos : String} {af : Array Edge} {gd : Option (Nat × Bool)}
theorem o_idx2 {α : Type} {f : α → AV} {x ix : Operand} {t e : TypeId} {es bytes : Nat} {ea : Bool} {tok : Option Nat} {xs : List α} {k : IntKind} {n : Int} {i : Nat} (hd : dOk nt d = true) (hs : tabT.ti t = some (.sl e es bytes ea)) (hx : evalO T x = some (.sl tok es (xs.map f))) (hi : evalO T ix = some (.v (.int k n))) (hn : natOf n = some i)
    (hl : i < xs.length) : OpOK Try.prog E nt ops ⟨d, .indexAddr t x ix, ty, pos, af, gd⟩ T H [] ⟨.ref (f xs[i]), []⟩ := o_idxi i hd hs hx hi (natOf_eq hn) hl
theorem o_cutl2 {α : Type} {f : α → AV} {t e : TypeId} {es bytes : Nat} {ea : Bool} {x lo : Operand} {tok : Option Nat} {xs : List α} {k : IntKind} {n : Int} {l : Nat} (hd : dOk nt d = true) (hs : tabT.ti t = some (.sl e es bytes ea)) (hx : evalO T x = some (.sl tok es (xs.map f))) (hlo : evalO T lo = some (.v (.int k n))) (hn : natOf n = some l) (h1 : l ≤ xs.length) :
    OpOK Try.prog E nt ops ⟨d, .slice t x (some lo) none none, ty, pos, af, gd⟩ T H [] ⟨.sl none es ((xs.drop l).map f), []⟩ := by
  have := natOf_eq hn; subst this
  exact o_cutl hd hs hx hlo h1
theorem o_cuth2 {α : Type} {f : α → AV} {t e : TypeId} {es bytes : Nat} {ea : Bool} {x hi : Operand} {tok : Option Nat} {xs : List α} {k : IntKind} {n : Int} {h : Nat} (hd : dOk nt d = true) (hs : tabT.ti t = some (.sl e es bytes ea)) (hx : evalO T x = some (.sl tok es (xs.map f))) (hhi : evalO T hi = some (.v (.int k n))) (hn : natOf n = some h) (h1 : h ≤ xs.length) :
    OpOK Try.prog E nt ops ⟨d, .slice t x none (some hi) none, ty, pos, af, gd⟩ T H [] ⟨.sl none es ((xs.take h).map f), []⟩ := by
  have := natOf_eq hn; subst this
  exact o_cuth hd hs hx hhi h1
theorem o_idx3 {α : Type} {f : α → AV} {x ix : Operand} {t e : TypeId} {es bytes : Nat} {ea : Bool} {tok : Option Nat} {xs : List α} {k : IntKind} {i : Nat} (hd : dOk nt d = true) (hs : tabT.ti t = some (.sl e es bytes ea)) (hx : evalO T x = some (.sl tok es (xs.map f))) (hi : evalO T ix = some (.v (.int k (@OfNat.ofNat Int i (@instOfNat i)))))
    (hl : @OfNat.ofNat Nat i (instOfNatNat i) < xs.length) : OpOK Try.prog E nt ops ⟨d, .indexAddr t x ix, ty, pos, af, gd⟩ T H [] ⟨.ref (f xs[@OfNat.ofNat Nat i (instOfNatNat i)]), []⟩ := o_idxi i hd hs hx hi rfl hl
theorem o_cutl3 {α : Type} {f : α → AV} {t e : TypeId} {es bytes : Nat} {ea : Bool} {x lo : Operand} {tok : Option Nat} {xs : List α} {k : IntKind} {l : Nat} (hd : dOk nt d = true) (hs : tabT.ti t = some (.sl e es bytes ea)) (hx : evalO T x = some (.sl tok es (xs.map f))) (hlo : evalO T lo = some (.v (.int k (@OfNat.ofNat Int l (@instOfNat l))))) (h1 : @OfNat.ofNat Nat l (instOfNatNat l) ≤ xs.length) :
    OpOK Try.prog E nt ops ⟨d, .slice t x (some lo) none none, ty, pos, af, gd⟩ T H [] ⟨.sl none es ((xs.drop (@OfNat.ofNat Nat l (instOfNatNat l))).map f), []⟩ := o_cutl hd hs hx hlo h1
theorem o_cuth3 {α : Type} {f : α → AV} {t e : TypeId} {es bytes : Nat} {ea : Bool} {x hi : Operand} {tok : Option Nat} {xs : List α} {k : IntKind} {h : Nat} (hd : dOk nt d = true) (hs : tabT.ti t = some (.sl e es bytes ea)) (hx : evalO T x = some (.sl tok es (xs.map f))) (hhi : evalO T hi = some (.v (.int k (@OfNat.ofNat Int h (@instOfNat h))))) (h1 : @OfNat.ofNat Nat h (instOfNatNat h) ≤ xs.length) :
    OpOK Try.prog E nt ops ⟨d, .slice t x none (some hi) none, ty, pos, af, gd⟩ T H [] ⟨.sl none es ((xs.take (@OfNat.ofNat Nat h (instOfNatNat h))).map f), []⟩ := o_cuth hd hs hx hhi h1
theorem o_cutlh2 {α : Type} {f : α → AV} {t e : TypeId} {es bytes : Nat} {ea : Bool} {x lo hi : Operand} {tok : Option Nat} {xs : List α} {k k' : IntKind} {m n : Int} {l h : Nat} (hd : dOk nt d = true) (hs : tabT.ti t = some (.sl e es bytes ea)) (hx : evalO T x = some (.sl tok es (xs.map f))) (hlo : evalO T lo = some (.v (.int k m))) (hm : natOf m = some l) (hhi : evalO T hi = some (.v (.int k' n))) (hn : natOf n = some h) (h1 : l ≤ h) (h2 : h ≤ xs.length) :
    OpOK Try.prog E nt ops ⟨d, .slice t x (some lo) (some hi) none, ty, pos, af, gd⟩ T H [] ⟨.sl none es (((xs.take h).drop l).map f), []⟩ := by
  have := natOf_eq hn; subst this
  have := natOf_eq hm; subst this
  exact o_cutlh hd hs hx hlo hhi h1 h2
theorem o_bld {t n : Nat} {fs : List (Nat × Nat × Bool)} {l : List (Nat × Operand)} {vs : List (Nat × AV)} {zs out out' : List AV} {z : AV} (hz : ZeroOk Try.prog t z) (hze : z = .agg n zs) (hd : dOk nt d = true) (hs : tabT.ti t = some (.st n fs)) (hv : partsA T l = some vs) (ho : fillA vs zs = some out) (hf : forceA out = some out') (hp : placesOk 0 zs fs = true) :
    OpOK Try.prog E nt ops ⟨d, .build t l.toArray, ty, pos, af, gd⟩ T H [] ⟨.agg n out', []⟩ := by
  subst hze
  have := forceA_eq hf; subst this
  exact ok_build tabT hd hs hz hv ho hp
end
theorem Wri {P : Program} {E : Env} {nt : Nat} {ops : Array Oper} {l : List Oper} {T : List (Nat × AV)} {H : List (Nat × Bx)} {rs : List Rec} {K : St → List Rec → Prop} (s : Nat) {a : Int} (b : Int) (hs : look s T = some (.v (.int .i64 a))) (he : a = b) {o : Oper} (h : AWops P E nt ops (o :: l) ⟨(s, .v (.int .i64 b)) :: T, H⟩ rs K) : AWops P E nt ops (o :: l) ⟨T, H⟩ rs K :=
  Was s (.v (.int .i64 b)) (by rw [hs, he]) h
/-- what a result is -/
theorem res_of {P : Program} {S : St} {t : Nat} {x : AV} (hx : S.t t = some x) (hn : notTup x = true) (hd : dataA x = true) : Res1 P S (.tmp t) x := ⟨x, hx, notTup_ne hn, Wk.data hd⟩
theorem res_sl {P : Program} {S : St} {t n : Nat} {tok : Option Nat} {xs : List AV} (hx : S.t t = some (.sl tok n xs)) : Res1 P S (.tmp t) (.sl none n xs) := ⟨_, hx, notTup_ne rfl, Wk.tok⟩
theorem res_nil {P : Program} {S : St} {t n : Nat} (hx : S.t t = some (.v (.slice none 0 0))) : Res1 P S (.tmp t) (.sl none n []) := ⟨_, hx, notTup_ne rfl, Wk.nil⟩
theorem res_var {S : St} {a t g : Nat} {x : AV} (ha : S.t a = some (.ptr g 0 [])) (hg : S.h g = some (.var x)) (hs : tabT.sa t = some (isAggA x, sizeA x)) (hd : dataA x = true) : Res1 Try.prog S (.cell a t) x := ⟨g, x, ha, hg, tabT.tyOf hs, Wk.data hd⟩
theorem fin {P : Program} {S : St} {rv : List ResultVar} {ys : List AV} (h : ResL P S rv ys) : (Exit.ret = Exit.normal ∨ Exit.ret = Exit.ret) ∧ ResL P S rv ys := ⟨.inr rfl, h⟩
theorem finn {P : Program} {S : St} {rv : List ResultVar} {ys : List AV} (h : ResL P S rv ys) : (Exit.normal = Exit.normal ∨ Exit.normal = Exit.ret) ∧ ResL P S rv ys := ⟨.inl rfl, h⟩
end Go.Proofs.Ytkpjkfjlpiidbaa

namespace Go.Proofs.Ytkpjkfjlpiidbaa
open Go Go.RowKit
set_option linter.unusedVariables false
set_option linter.unusedSimpArgs false
set_option maxRecDepth 100000

def cmpA : BinOp → Int → Int → Option Bool
  | .lss, a, b => some (decide (a < b))
  | .leq, a, b => some (decide (a ≤ b))
  | .gtr, a, b => some (decide (b < a))
  | .geq, a, b => some (decide (b ≤ a))
  | .eql, a, b => some (decide (a = b))
  | .neq, a, b => some (decide (a ≠ b))
  | _, _, _ => none
def cmpB : BinOp → Bool → Bool → Option Bool
  | .eql, a, b => some (decide (a = b))
  | .neq, a, b => some (decide (a ≠ b))
  | _, _, _ => none
def saB (t : TypeId) (y : AV) : Bool := match tabT.sa t with
  | some (g, n) => g == isAggA y && Nat.beq n (sizeA y)
  | none => false
theorem saB_eq {t : TypeId} {y : AV} (h : saB t y = true) : tabT.sa t = some (isAggA y, sizeA y) := by
  unfold saB at h
  split at h
  · rename_i g n e
    rw [Bool.and_eq_true, beq_iff_eq] at h
    rw [e, h.1, Nat.eq_of_beq_eq_true h.2]
  · cases h
def binA (T : Nat → Option AV) (b : BinOp) (t : TypeId) (x y : Operand) : Option AV := match evalO T x, evalO T y with
  | some (.v (.int k p)), some (.v (.int k' q)) => if k = k' then (match cmpA b p q with
    | some c => some (.v (.bool c))
    | none => none) else none
  | some (.v (.bool p)), some (.v (.bool q)) => bif Nat.beq t 4 then (match cmpB b p q with
    | some c => some (.v (.bool c))
    | none => none) else none
  | _, _ => none
def loadA (T : Nat → Option AV) (H : Hp) (t : TypeId) (x : Operand) : Option (AV × List Nat) := match evalO T x with
  | some (.ref y) => bif saB t y then some (y, []) else none
  | some (.ptr g off p) => match H g with
    | some bx => match boxAV bx with
      | some y => match subA p y with
        | some z => bif Nat.beq (offA p y) off && saB t z then some (z, [g]) else none
        | none => none
      | none => none
    | none => none
  | _ => none
def fieldA (T : Nat → Option AV) (s : TypeId) (x : Operand) (f : Nat) : Option AV := match evalO T x, tabT.ti s with
  | some (.ref y), some (.st n fs) => match fldA fs y f with
    | some (o, z) => some (.ref z)
    | none => none
  | some (.ptr g off p), some (.st n fs) => match fs[f]? with
    | some (o, sz + 1, ag) => some (.ptr g (off + o) (p ++ [f]))
    | _ => none
  | _, _ => none
def stepA (T : Nat → Option AV) (H : Hp) : Op → Option (AV × List Nat)
  | .move x => match evalO T x with
    | some v => some (v, [])
    | none => none
  | .assign x => match evalO T x with
    | some v => some (v, [])
    | none => none
  | .pick c x y => match evalO T c with
    | some (.v (.bool true)) => match evalO T x with
      | some v => some (v, [])
      | none => none
    | some (.v (.bool false)) => match evalO T y with
      | some v => some (v, [])
      | none => none
    | _ => none
  | .extract x i => match evalO T x with
    | some (.tup vs) => match vs[i]? with
      | some v => some (v, [])
      | none => none
    | _ => none
  | .binOp b t x y t' => match binA T b t x y with
    | some v => some (v, [])
    | none => none
  | .unOp .not t x => match evalO T x with
    | some (.v (.bool p)) => some (.v (.bool (!p)), [])
    | _ => none
  | .load t x => loadA T H t x
  | .fieldAddr s x f => match fieldA T s x f with
    | some v => some (v, [])
    | none => none
  | _ => none
section
variable {E : Env} {nt : Nat} {ops : Array Oper} {T : Nat → Option AV} {H : Hp} {d : Option Nat} {ty : TypeId} {pos : String} {af : Array Edge} {gd : Option (Nat × Bool)}
set_option maxRecDepth 100000 in
theorem step_ok {op : Op} {v : AV} {rh : List Nat} (h : stepA T H op = some (v, rh)) (hd : dOk nt d = true) : OpOK Try.prog E nt ops ⟨d, op, ty, pos, af, gd⟩ T H rh ⟨v, []⟩ := by
  unfold stepA at h
  split at h
  · split at h <;> (try cases h)
    rename_i x v hx
    exact ok_move hd hx
  · split at h <;> (try cases h)
    rename_i x v hx
    exact ok_assign hd hx
  · split at h
    · rename_i c x y hc
      split at h <;> (try cases h)
      rename_i v hx
      exact ok_pick_t hd hc hx
    · rename_i c x y hc
      split at h <;> (try cases h)
      rename_i v hx
      exact ok_pick_f hd hc hx
    · cases h
  · split at h
    · rename_i x i vs hx
      split at h <;> (try cases h)
      rename_i v hv
      exact ok_extract hd hx hv
    · cases h
  · split at h <;> (try cases h)
    rename_i b t x y t' v hb
    unfold binA at hb
    split at hb
    · rename_i k p k' q hx hy
      split at hb
      · rename_i hk
        subst hk
        split at hb
        · rename_i c hc
          injection hb with hb; subst hb
          cases b <;> simp only [cmpA, Option.some.injEq, reduceCtorEq] at hc <;> subst hc
          · exact ok_eql hd hx hy
          · exact ok_neq hd hx hy
          · exact ok_lss hd hx hy
          · exact ok_leq hd hx hy
          · exact ok_gtr hd hx hy
          · exact ok_geq hd hx hy
        · cases hb
      · cases hb
    · rename_i p q hx hy
      cases ht : Nat.beq t 4 with
      | false => rw [ht] at hb; cases hb
      | true =>
        rw [ht] at hb
        simp only [cond_true] at hb
        have := Nat.eq_of_beq_eq_true ht
        subst this
        split at hb
        · rename_i c hc
          injection hb with hb; subst hb
          cases b <;> simp only [cmpB, Option.some.injEq, reduceCtorEq] at hc <;> subst hc
          · exact ok_eql_b Try.underlying4 hd hx hy
          · exact ok_neq_b Try.underlying4 hd hx hy
        · cases hb
    · cases hb
  · split at h
    · rename_i t x p hx
      cases h
      exact ok_not hd hx
    · cases h
  · rename_i t x
    unfold loadA at h
    split at h
    · rename_i y hx
      cases hs : saB t y with
      | false => rw [hs] at h; cases h
      | true =>
        rw [hs] at h
        cases h
        exact ok_load_ref tabT hd hx (saB_eq hs)
    · rename_i g off p hx
      split at h
      · rename_i bx hg
        split at h
        · rename_i y hb
          split at h
          · rename_i z hp
            cases hs : (Nat.beq (offA p y) off && saB t z) with
            | false => rw [hs] at h; cases h
            | true =>
              rw [hs] at h
              cases h
              rw [Bool.and_eq_true] at hs
              exact ok_load_ptr tabT hd hx hg hb hp (Nat.eq_of_beq_eq_true hs.1) (saB_eq hs.2)
          · cases h
        · cases h
      · cases h
    · cases h
  · split at h <;> (try cases h)
    rename_i s x f v hf
    unfold fieldA at hf
    split at hf
    · rename_i y n fs hx hs
      split at hf
      · rename_i o z hz
        injection hf with hf; subst hf
        exact ok_fld_ref tabT hd hx hs hz
      · cases hf
    · rename_i g off p n fs hx hs
      split at hf
      · rename_i o sz ag hz
        injection hf with hf; subst hf
        exact ok_fld_ptr tabT hd hx hs hz
      · cases hf
    · cases hf
  · cases h
end
section
variable {E : Env} {nt : Nat} {ops : Array Oper} {T : Nat → Option AV} {H : Hp} {d : Option Nat} {ty : TypeId} {pos : String} {af : Array Edge} {gd : Option (Nat × Bool)}
theorem o_sub1 {t t' : TypeId} {x y : Operand} {a : Nat} (hd : dOk nt d = true) (hx : evalO T x = some (.v (.int .i64 ((a + 1 : Nat) : Int)))) (hy : evalO T y = some (.v (.int .i64 1))) (h : a ≤ 9223372036854775807) : OpOK Try.prog E nt ops ⟨d, .binOp .sub t x y t', ty, pos, af, gd⟩ T H [] ⟨.v (.int .i64 (a : Nat)), []⟩ := by
  have := o_sub (E := E) (ops := ops) (H := H) (ty := ty) (pos := pos) (af := af) (gd := gd) (t := t) (t' := t') hd hx hy (by omega)
  rwa [show ((a + 1 : Nat) : Int) - 1 = (a : Nat) from by omega] at this
end
section
variable {E : Env} {nt : Nat} {ops : Array Oper} {T : Nat → Option AV} {H : Hp} {d : Option Nat} {ty : TypeId} {pos : String} {af : Array Edge} {gd : Option (Nat × Bool)}
/-- an element of a row told one by one -/
theorem o_idxr {x ix : Operand} {t e : TypeId} {es bytes : Nat} {ea : Bool} {tok : Option Nat} {xs : List AV} {k : IntKind} {n : Int} {i : Nat} {y : AV} (hd : dOk nt d = true) (hs : tabT.ti t = some (.sl e es bytes ea)) (hx : evalO T x = some (.sl tok es xs)) (hi : evalO T ix = some (.v (.int k n))) (hn : natOf n = some i) (hy : xs[i]? = some y) :
    OpOK Try.prog E nt ops ⟨d, .indexAddr t x ix, ty, pos, af, gd⟩ T H [] ⟨.ref y, []⟩ := by
  have := natOf_eq hn; subst this
  exact ok_idx_sl tabT hd hs hx hi (Int.natCast_nonneg i) (by simpa using hy)
end
/-- a contract with what a call of it wants -/
def ACall (f : FuncId) (args : List AV) (r : AV) : Prop := ∃ fn, Try.prog.funcs[f]? = some fn ∧ fn.body.isSome = true ∧ (fn.name == "runtime.NumGoroutine") = false ∧ AFn Try.prog f args r
theorem acall {f : FuncId} {fn : Func} {args : List AV} {r : AV} (hf : Try.prog.funcs[f]? = some fn) (hc : AFn Try.prog f args r) (hb : fn.body.isSome = true) (hn : (fn.name == "runtime.NumGoroutine") = false) : ACall f args r := ⟨fn, hf, hb, hn, hc⟩
section
variable {E : Env} {nt : Nat} {ops : Array Oper} {T : Nat → Option AV} {H : Hp} {d : Option Nat} {ty : TypeId} {pos : String} {af : Array Edge} {gd : Option (Nat × Bool)}
theorem o_acall {f : FuncId} {l : List Operand} {ats : Array TypeId} {xs ys : List AV} {y : AV} (hd : dOk nt d = true) (hx : argsA T l = some xs) (hw : weakA xs = some ys) (hnt : xs.all notTup = true) (hc : ACall f ys y) : OpOK Try.prog E nt ops ⟨d, .call { callee := .value (.func f), args := l.toArray, argTypes := ats }, ty, pos, af, gd⟩ T H [] ⟨y, []⟩ := by
  obtain ⟨fn, h1, h2, h3, h4⟩ := hc
  exact o_call h1 h4 h2 h3 hd hx (fun _ => weakA_wkl _ _ hw) hnt
end
section
variable {P : Program} {E : Env} {nt : Nat} {ops : Array Oper} {l : List Oper} {T : List (Nat × AV)} {H : List (Nat × Bx)} {rs : List Rec} {K : St → List Rec → Prop} {op : Op} {ty : TypeId} {pos : String} {af : Array Edge} {d : Option Nat}
theorem want_t {T : Nat → Option AV} {j : Nat} {b : Bool} {xs : List AV} (h : ((ops[j]?).bind (·.dst)).bind T = some (.tup xs)) : wantedA ops ⟨d, op, ty, pos, af, some (j, b)⟩ T = some false := by
  unfold wantedA; simp [h]
/-- a guard's slot, where a fact at hand tells it -/
theorem Wgt {j s : Nat} {b : Bool} {p : Prop} [Decidable p] (hj : ((ops[j]?).bind (·.dst)) = some s) (hs : look s T = some (.v (.bool (decide p)))) (hp : p) (h : AWops P E nt ops (⟨d, op, ty, pos, af, some (j, b)⟩ :: l) ⟨(s, .v (.bool true)) :: T, H⟩ rs K) : AWops P E nt ops (⟨d, op, ty, pos, af, some (j, b)⟩ :: l) ⟨T, H⟩ rs K := Wtest s true hs (decide_eq_true hp) h
theorem Wgf {j s : Nat} {b : Bool} {p : Prop} [Decidable p] (hj : ((ops[j]?).bind (·.dst)) = some s) (hs : look s T = some (.v (.bool (decide p)))) (hp : ¬ p) (h : AWops P E nt ops (⟨d, op, ty, pos, af, some (j, b)⟩ :: l) ⟨(s, .v (.bool false)) :: T, H⟩ rs K) : AWops P E nt ops (⟨d, op, ty, pos, af, some (j, b)⟩ :: l) ⟨T, H⟩ rs K := Wtest s false hs (decide_eq_false hp) h
theorem Wgb {j s : Nat} {b c e : Bool} (hj : ((ops[j]?).bind (·.dst)) = some s) (hs : look s T = some (.v (.bool c))) (hp : c = e) (h : AWops P E nt ops (⟨d, op, ty, pos, af, some (j, b)⟩ :: l) ⟨(s, .v (.bool e)) :: T, H⟩ rs K) : AWops P E nt ops (⟨d, op, ty, pos, af, some (j, b)⟩ :: l) ⟨T, H⟩ rs K := Wtest s e hs hp h
end
end Go.Proofs.Ytkpjkfjlpiidbaa

namespace Go.Proofs.Ytkpjkfjlpiidbaa
open Go Go.RowKit
set_option linter.unusedVariables false
set_option linter.unusedSimpArgs false
set_option maxRecDepth 100000

/-- what is still to be shown, kept out of sight of the steps -/
structure Hid (R : Prop) : Prop where
  out : R
theorem wO {Q R : Prop} (k : R) (h : Hid R → Q := by intro kHid; (repeat (first | (first | refine Wend _ ?_ | refine AW_seq ?_ | refine AW_reg ?_ | refine AW_drw mixed ?_ | refine AW_block ?_ | refine AW_scope ?_ | refine thenA_n ?_ | refine blockA_n ?_ | refine blockA_h ?_ | refine scopeA_n ?_ | refine thenA_r ?_ | refine blockA_r ?_ | refine scopeA_r ?_ | refine thenA_e ?_ | refine scopeA_e ?_ | refine blockA_e rfl ?_ | refine AW_exit ?_ | refine AW_ret ?_ | refine AW_skip ?_ | refine AW_c rfl ?_ | with_reducible refine cb_t ?_ | with_reducible refine cb_f ?_ | with_reducible refine cb_yes (by first | assumption | omega) ?_ | with_reducible refine cb_no (by first | assumption | omega) ?_ | refine And.intro (by decide +kernel) ?_) | (first | (apply Wv; (focus (first | exact step_ok rfl rfl | exact o_idx rfl rfl rfl rfl (by first | assumption | omega | decide) | exact o_idx3 rfl rfl rfl rfl (by first | assumption | omega | decide) | exact o_idx2 rfl rfl rfl rfl rfl (by first | assumption | omega | decide) | exact o_idxr rfl rfl rfl rfl rfl rfl | exact o_lenm rfl rfl rfl | exact o_len rfl rfl rfl | exact o_len0 rfl rfl rfl | exact o_lens rfl rfl rfl | exact o_lent rfl rfl | exact o_add1 rfl rfl rfl (by omega) | exact o_addn rfl rfl rfl (by omega) | exact o_add rfl rfl rfl (by omega) | exact o_sub1 rfl rfl rfl (by omega) | exact o_sub rfl rfl rfl (by omega) | exact o_mul rfl rfl rfl (by omega) | exact o_rem rfl rfl rfl (by omega) | exact ok_rem rfl rfl rfl (by decide) rfl | exact o_eqKey rfl rfl rfl | exact o_neKey rfl rfl rfl | exact o_acall rfl rfl rfl rfl (by assumption) | exact o_minn rfl rfl rfl | exact o_cutl rfl rfl rfl rfl (by omega) | exact o_cuth rfl rfl rfl rfl (by omega) | exact o_cutl3 rfl rfl rfl rfl (by omega) | exact o_cuth3 rfl rfl rfl rfl (by omega) | exact o_cutl2 rfl rfl rfl rfl rfl (by omega) | exact o_cuth2 rfl rfl rfl rfl rfl (by omega) | exact o_cutlh2 rfl rfl rfl rfl rfl rfl rfl (by omega) (by omega) | exact o_bld zero_Key rfl rfl rfl rfl rfl rfl rfl | exact o_bld zero_Node rfl rfl rfl rfl rfl rfl rfl)); (focus (first | exact want_n | exact want_g rfl (by with_reducible rfl)))) | (apply Wb; (focus (first | exact o_box rfl rfl rfl rfl | exact o_app rfl rfl rfl rfl rfl (by first | exact o_many rfl | exact o_one _ _ rfl) (by first | omega | (simp; omega) | simp) (by first | omega | (simp; omega) | simp) | exact o_appn rfl rfl rfl rfl rfl (by first | exact o_many rfl | exact o_one _ _ rfl) (by first | omega | (simp; omega) | simp) (by first | omega | (simp; omega) | simp) | exact o_app1 rfl rfl rfl rfl rfl (by first | exact o_many rfl | exact o_one _ _ rfl) (by exact rfl) (by first | omega | (simp; omega) | simp) (by first | omega | (simp; omega) | simp) | exact o_app0 rfl rfl rfl rfl rfl (by first | exact o_many rfl | exact o_one _ _ rfl) (by first | omega | (simp; omega) | simp) (by first | omega | (simp; omega) | simp) | exact o_bsl0 rfl rfl rfl | exact o_bsll zero_slints rfl rfl rfl rfl rfl rfl rfl rfl | exact o_bsll zero_slkeys rfl rfl rfl rfl rfl rfl rfl rfl | exact o_bsll zero_int rfl rfl rfl rfl rfl rfl rfl rfl | exact o_bsll zero_Key rfl rfl rfl rfl rfl rfl rfl rfl | exact o_alloc zero_Key rfl rfl | exact o_alloc zero_Node rfl rfl)); (focus (first | exact want_n | exact want_g rfl (by with_reducible rfl)))) | (apply Ws; (focus (exact ok_store tabT (d := none) rfl rfl rfl rfl rfl rfl rfl rfl rfl rfl)); (focus (first | exact want_n | exact want_g rfl (by with_reducible rfl)))) | (refine Wskip (by first | exact want_f rfl (by with_reducible exact b_nt) | exact want_f rfl (by with_reducible exact b_nf) | exact want_t rfl) rfl ?_) | refine Wgt rfl rfl (by first | assumption | omega | exact rfl) ?_ | refine Wgf rfl rfl (by first | assumption | omega | exact rfl) ?_ | (refine Wgb rfl rfl (by assumption) ?_) | (refine cb_is _ (by assumption) ?_)))); exact kHid.out) : Q := h ⟨k⟩
theorem wL {Q R : Prop} (k : R) (h : Hid R → Q := by intro kHid; (repeat (first | (first | refine Wend _ ?_ | refine AW_seq ?_ | refine AW_reg ?_ | refine AW_drw mixed ?_ | refine AW_block ?_ | refine AW_scope ?_ | refine thenA_n ?_ | refine blockA_n ?_ | refine blockA_h ?_ | refine scopeA_n ?_ | refine thenA_r ?_ | refine blockA_r ?_ | refine scopeA_r ?_ | refine thenA_e ?_ | refine scopeA_e ?_ | refine blockA_e rfl ?_ | refine AW_exit ?_ | refine AW_ret ?_ | refine AW_skip ?_ | refine AW_c rfl ?_ | with_reducible refine cb_t ?_ | with_reducible refine cb_f ?_ | with_reducible refine cb_yes (by first | assumption | omega) ?_ | with_reducible refine cb_no (by first | assumption | omega) ?_ | refine And.intro (by decide +kernel) ?_) | (first | (apply Wv; (focus (first | exact step_ok rfl rfl | exact o_idx rfl rfl rfl rfl (by first | assumption | omega | decide) | exact o_idx3 rfl rfl rfl rfl (by first | assumption | omega | decide) | exact o_idx2 rfl rfl rfl rfl rfl (by first | assumption | omega | decide) | exact o_idxr rfl rfl rfl rfl rfl rfl | exact o_lenm rfl rfl rfl | exact o_len rfl rfl rfl | exact o_len0 rfl rfl rfl | exact o_lens rfl rfl rfl | exact o_lent rfl rfl | exact o_add1 rfl rfl rfl (by omega) | exact o_addn rfl rfl rfl (by omega) | exact o_add rfl rfl rfl (by omega) | exact o_sub1 rfl rfl rfl (by omega) | exact o_sub rfl rfl rfl (by omega) | exact o_mul rfl rfl rfl (by omega) | exact o_rem rfl rfl rfl (by omega) | exact ok_rem rfl rfl rfl (by decide) rfl | exact o_eqKey rfl rfl rfl | exact o_neKey rfl rfl rfl | exact o_eqVl rfl rfl rfl | exact o_neVl rfl rfl rfl | exact o_eqEnt rfl rfl rfl | exact o_neEnt rfl rfl rfl | exact o_eqMsg rfl rfl rfl | exact o_neMsg rfl rfl rfl | exact o_acall rfl rfl rfl rfl (by assumption) | exact o_minn rfl rfl rfl | exact o_cutl rfl rfl rfl rfl (by omega) | exact o_cuth rfl rfl rfl rfl (by omega) | exact o_cutl3 rfl rfl rfl rfl (by omega) | exact o_cuth3 rfl rfl rfl rfl (by omega) | exact o_cutl2 rfl rfl rfl rfl rfl (by omega) | exact o_cuth2 rfl rfl rfl rfl rfl (by omega) | exact o_cutlh2 rfl rfl rfl rfl rfl rfl rfl (by omega) (by omega) | exact e_bld rfl rfl rfl | exact e_bldk rfl rfl | exact z_bld0 rfl rfl rfl rfl rfl | exact z_bld rfl rfl rfl rfl rfl rfl rfl | exact o_addu rfl rfl rfl | exact z_blda rfl rfl rfl rfl rfl rfl rfl rfl rfl | exact o_idxa rfl rfl rfl rfl rfl rfl | exact o_idxra rfl rfl rfl rfl rfl rfl rfl | exact o_quo2 rfl rfl rfl (by omega) | exact o_quo rfl rfl rfl (by omega))); (focus (first | exact want_n | exact want_g rfl (by with_reducible rfl)))) | (apply Wb; (focus (first | exact o_box rfl rfl rfl rfl | exact o_app rfl rfl rfl rfl rfl (by first | exact o_many rfl | exact o_one _ _ rfl) (by first | omega | (simp; omega) | simp) (by first | omega | (simp; omega) | simp) | exact o_appn rfl rfl rfl rfl rfl (by first | exact o_many rfl | exact o_one _ _ rfl) (by first | omega | (simp; omega) | simp) (by first | omega | (simp; omega) | simp) | exact o_app1 rfl rfl rfl rfl rfl (by first | exact o_many rfl | exact o_one _ _ rfl) (by exact rfl) (by first | omega | (simp; omega) | simp) (by first | omega | (simp; omega) | simp) | exact o_app0 rfl rfl rfl rfl rfl (by first | exact o_many rfl | exact o_one _ _ rfl) (by first | omega | (simp; omega) | simp) (by first | omega | (simp; omega) | simp) | exact o_bsl0 rfl rfl rfl | exact z_bsll rfl rfl rfl rfl rfl rfl rfl rfl rfl | exact z_alloc rfl rfl rfl)); (focus (first | exact want_n | exact want_g rfl (by with_reducible rfl)))) | (apply Ws; (focus (exact ok_store tabT (d := none) rfl rfl rfl rfl rfl rfl rfl rfl rfl rfl)); (focus (first | exact want_n | exact want_g rfl (by with_reducible rfl)))) | (refine Wskip (by first | exact want_f rfl (by with_reducible exact b_nt) | exact want_f rfl (by with_reducible exact b_nf) | exact want_t rfl) rfl ?_) | refine Wgt rfl rfl (by first | assumption | omega | exact rfl) ?_ | refine Wgf rfl rfl (by first | assumption | omega | exact rfl) ?_ | (refine Wgb rfl rfl (by with_reducible assumption) ?_) | (refine cb_is _ (by assumption) ?_)))); exact kHid.out) : Q := h ⟨k⟩
theorem wS {Q R : Prop} (k : R) (h : Hid R → Q := by intro kHid; (repeat (first | (first | refine Wend _ ?_ | refine AW_seq ?_ | refine AW_reg ?_ | refine AW_drw mixed ?_ | refine AW_block ?_ | refine AW_scope ?_ | refine thenA_n ?_ | refine blockA_n ?_ | refine blockA_h ?_ | refine scopeA_n ?_ | refine thenA_r ?_ | refine blockA_r ?_ | refine scopeA_r ?_ | refine thenA_e ?_ | refine scopeA_e ?_ | refine blockA_e rfl ?_ | refine AW_exit ?_ | refine AW_ret ?_ | refine AW_skip ?_ | refine AW_c rfl ?_ | with_reducible refine cb_t ?_ | with_reducible refine cb_f ?_ | with_reducible refine cb_yes (by first | assumption | omega) ?_ | with_reducible refine cb_no (by first | assumption | omega) ?_ | refine And.intro (by decide +kernel) ?_) | (first | (apply Wv; (focus (first | exact step_ok rfl rfl | exact o_idx rfl rfl rfl rfl (by first | assumption | omega | decide) | exact o_idx3 rfl rfl rfl rfl (by first | assumption | omega | decide) | exact o_idx2 rfl rfl rfl rfl rfl (by first | assumption | omega | decide) | exact o_idxr rfl rfl rfl rfl rfl rfl | exact o_lenm rfl rfl rfl | exact o_len rfl rfl rfl | exact o_len0 rfl rfl rfl | exact o_lens rfl rfl rfl | exact o_lent rfl rfl | exact o_add1 rfl rfl rfl (by omega) | exact o_addn rfl rfl rfl (by omega) | exact o_add rfl rfl rfl (by omega) | exact o_sub1 rfl rfl rfl (by omega) | exact o_sub rfl rfl rfl (by omega) | exact o_mul rfl rfl rfl (by omega) | exact o_rem rfl rfl rfl (by omega) | exact ok_rem rfl rfl rfl (by decide) rfl | exact o_eqKey rfl rfl rfl | exact o_neKey rfl rfl rfl | exact o_eqVl rfl rfl rfl | exact o_neVl rfl rfl rfl | exact o_eqEnt rfl rfl rfl | exact o_neEnt rfl rfl rfl | exact o_eqMsg rfl rfl rfl | exact o_neMsg rfl rfl rfl | exact o_acall rfl rfl rfl rfl (by assumption) | exact o_minn rfl rfl rfl | exact o_cutl rfl rfl rfl rfl (by omega) | exact o_cuth rfl rfl rfl rfl (by omega) | exact o_cutl3 rfl rfl rfl rfl (by omega) | exact o_cuth3 rfl rfl rfl rfl (by omega) | exact o_cutl2 rfl rfl rfl rfl rfl (by omega) | exact o_cuth2 rfl rfl rfl rfl rfl (by omega) | exact o_cutlh2 rfl rfl rfl rfl rfl rfl rfl (by omega) (by omega) | exact e_bld rfl rfl rfl | exact e_bldk rfl rfl | exact z_bld0 rfl rfl rfl rfl rfl | exact z_bld rfl rfl rfl rfl rfl rfl rfl | exact o_addu rfl rfl rfl | exact o_mulu rfl rfl rfl (by decide) | exact o_convb ⟨_, Try.underlying3⟩ Try.underlying5 rfl rfl | exact o_convu ⟨_, Try.underlying3⟩ Try.underlying46 rfl rfl | exact o_convs Try.underlying74 Try.underlying5 Try.underlying9 rfl rfl | exact o_idxs rfl rfl rfl rfl (by first | assumption | omega) | exact z_blda rfl rfl rfl rfl rfl rfl rfl rfl rfl | exact o_idxa rfl rfl rfl rfl rfl rfl | exact o_idxra rfl rfl rfl rfl rfl rfl rfl | exact o_quo2 rfl rfl rfl (by omega) | exact o_quo rfl rfl rfl (by omega))); (focus (first | exact want_n | exact want_g rfl (by with_reducible rfl)))) | (apply Wb; (focus (first | exact o_box rfl rfl rfl rfl | exact o_app rfl rfl rfl rfl rfl (by first | exact o_many rfl | exact o_one _ _ rfl) (by first | omega | (simp; omega) | simp) (by first | omega | (simp; omega) | simp) | exact o_appn rfl rfl rfl rfl rfl (by first | exact o_many rfl | exact o_one _ _ rfl) (by first | omega | (simp; omega) | simp) (by first | omega | (simp; omega) | simp) | exact o_app1 rfl rfl rfl rfl rfl (by first | exact o_many rfl | exact o_one _ _ rfl) (by exact rfl) (by first | omega | (simp; omega) | simp) (by first | omega | (simp; omega) | simp) | exact o_app0 rfl rfl rfl rfl rfl (by first | exact o_many rfl | exact o_one _ _ rfl) (by first | omega | (simp; omega) | simp) (by first | omega | (simp; omega) | simp) | exact o_bsl0 rfl rfl rfl | exact z_bsll rfl rfl rfl rfl rfl rfl rfl rfl rfl | exact z_alloc rfl rfl rfl)); (focus (first | exact want_n | exact want_g rfl (by with_reducible rfl)))) | (apply Ws; (focus (exact ok_store tabT (d := none) rfl rfl rfl rfl rfl rfl rfl rfl rfl rfl)); (focus (first | exact want_n | exact want_g rfl (by with_reducible rfl)))) | (refine Wskip (by first | exact want_f rfl (by with_reducible exact b_nt) | exact want_f rfl (by with_reducible exact b_nf) | exact want_t rfl) rfl ?_) | refine Wgt rfl rfl (by first | assumption | omega | exact rfl) ?_ | refine Wgf rfl rfl (by first | assumption | omega | exact rfl) ?_ | (refine Wgb rfl rfl (by with_reducible assumption) ?_) | (refine cb_is _ (by assumption) ?_)))); exact kHid.out) : Q := h ⟨k⟩
theorem wI {Q R : Prop} (k : R) (h : Hid R → Q := by intro kHid; (repeat (first | (first | refine Wend _ ?_ | refine AW_seq ?_ | refine AW_reg ?_ | refine AW_drw mixed ?_ | refine AW_block ?_ | refine AW_scope ?_ | refine thenA_n ?_ | refine blockA_n ?_ | refine blockA_h ?_ | refine scopeA_n ?_ | refine thenA_r ?_ | refine blockA_r ?_ | refine scopeA_r ?_ | refine thenA_e ?_ | refine scopeA_e ?_ | refine blockA_e rfl ?_ | refine AW_exit ?_ | refine AW_ret ?_ | refine AW_skip ?_ | refine AW_c rfl ?_ | with_reducible refine cb_t ?_ | with_reducible refine cb_f ?_ | with_reducible refine cb_yes (by first | assumption | omega) ?_ | with_reducible refine cb_no (by first | assumption | omega) ?_ | refine And.intro (by decide +kernel) ?_) | (first | (apply Wv; (focus (first | exact step_ok rfl rfl | exact o_idx rfl rfl rfl rfl (by first | assumption | omega | decide) | exact o_idx3 rfl rfl rfl rfl (by first | assumption | omega | decide) | exact o_idx2 rfl rfl rfl rfl rfl (by first | assumption | omega | decide) | exact o_idxr rfl rfl rfl rfl rfl rfl | exact o_lenm rfl rfl rfl | exact o_len rfl rfl rfl | exact o_len0 rfl rfl rfl | exact o_lens rfl rfl rfl | exact o_lent rfl rfl | exact o_add1 rfl rfl rfl (by omega) | exact o_addn rfl rfl rfl (by omega) | exact o_add rfl rfl rfl (by omega) | exact o_sub1 rfl rfl rfl (by omega) | exact o_sub rfl rfl rfl (by omega) | exact o_mul rfl rfl rfl (by omega) | exact o_rem rfl rfl rfl (by omega) | exact ok_rem rfl rfl rfl (by decide) rfl | exact o_eqKey rfl rfl rfl | exact o_neKey rfl rfl rfl | exact o_eqVl rfl rfl rfl | exact o_neVl rfl rfl rfl | exact o_eqEnt rfl rfl rfl | exact o_neEnt rfl rfl rfl | exact o_eqMsg rfl rfl rfl | exact o_neMsg rfl rfl rfl | exact o_acall rfl rfl rfl rfl (by assumption) | exact o_minn rfl rfl rfl | exact o_cutl rfl rfl rfl rfl (by omega) | exact o_cuth rfl rfl rfl rfl (by omega) | exact o_cutl3 rfl rfl rfl rfl (by omega) | exact o_cuth3 rfl rfl rfl rfl (by omega) | exact o_cutl2 rfl rfl rfl rfl rfl (by omega) | exact o_cuth2 rfl rfl rfl rfl rfl (by omega) | exact o_cutlh2 rfl rfl rfl rfl rfl rfl rfl (by omega) (by omega) | exact e_bld rfl rfl rfl | exact e_bldk rfl rfl | exact z_bld0 rfl rfl rfl rfl rfl | exact z_bld rfl rfl rfl rfl rfl rfl rfl | exact o_addu rfl rfl rfl | exact o_mulu rfl rfl rfl (by decide) | exact o_convb ⟨_, Try.underlying3⟩ Try.underlying5 rfl rfl | exact o_convu ⟨_, Try.underlying3⟩ Try.underlying46 rfl rfl | exact o_convs Try.underlying74 Try.underlying5 Try.underlying9 rfl rfl | exact o_idxs rfl rfl rfl rfl (by first | assumption | omega) | exact o_mkifc rfl rfl rfl (by decide +kernel) | exact o_asy rfl rfl rfl (by decide +kernel) | exact o_asn rfl rfl rfl rfl (by decide +kernel) (by decide +kernel) | exact o_minv rfl rfl rfl rfl rfl rfl (by assumption) | exact z_blda rfl rfl rfl rfl rfl rfl rfl rfl rfl | exact o_idxa rfl rfl rfl rfl rfl rfl | exact o_idxra rfl rfl rfl rfl rfl rfl rfl | exact o_quo2 rfl rfl rfl (by omega) | exact o_quo rfl rfl rfl (by omega))); (focus (first | exact want_n | exact want_g rfl (by with_reducible rfl)))) | (apply Wb; (focus (first | exact o_box rfl rfl rfl rfl | exact o_app rfl rfl rfl rfl rfl (by first | exact o_many rfl | exact o_one _ _ rfl) (by first | omega | (simp; omega) | simp) (by first | omega | (simp; omega) | simp) | exact o_appn rfl rfl rfl rfl rfl (by first | exact o_many rfl | exact o_one _ _ rfl) (by first | omega | (simp; omega) | simp) (by first | omega | (simp; omega) | simp) | exact o_app1 rfl rfl rfl rfl rfl (by first | exact o_many rfl | exact o_one _ _ rfl) (by exact rfl) (by first | omega | (simp; omega) | simp) (by first | omega | (simp; omega) | simp) | exact o_app0 rfl rfl rfl rfl rfl (by first | exact o_many rfl | exact o_one _ _ rfl) (by first | omega | (simp; omega) | simp) (by first | omega | (simp; omega) | simp) | exact o_bsl0 rfl rfl rfl | exact z_bsll rfl rfl rfl rfl rfl rfl rfl rfl rfl | exact z_alloc rfl rfl rfl)); (focus (first | exact want_n | exact want_g rfl (by with_reducible rfl)))) | (apply Ws; (focus (exact ok_store tabT (d := none) rfl rfl rfl rfl rfl rfl rfl rfl rfl rfl)); (focus (first | exact want_n | exact want_g rfl (by with_reducible rfl)))) | (refine Wskip (by first | exact want_f rfl (by with_reducible exact b_nt) | exact want_f rfl (by with_reducible exact b_nf) | exact want_t rfl) rfl ?_) | refine Wgt rfl rfl (by first | assumption | omega | exact rfl) ?_ | refine Wgf rfl rfl (by first | assumption | omega | exact rfl) ?_ | (refine Wgb rfl rfl (by with_reducible assumption) ?_) | (refine cb_is _ (by assumption) ?_)))); exact kHid.out) : Q := h ⟨k⟩
theorem wF {Q R : Prop} (k : R) (h : Hid R → Q := by intro kHid; (repeat (first | (first | refine Wend _ ?_ | refine AW_seq ?_ | refine AW_reg ?_ | refine AW_drw mixed ?_ | refine AW_block ?_ | refine AW_scope ?_ | refine thenA_n ?_ | refine blockA_n ?_ | refine blockA_h ?_ | refine scopeA_n ?_ | refine thenA_r ?_ | refine blockA_r ?_ | refine scopeA_r ?_ | refine thenA_e ?_ | refine scopeA_e ?_ | refine blockA_e rfl ?_ | refine AW_exit ?_ | refine AW_ret ?_ | refine AW_skip ?_ | refine AW_c rfl ?_ | with_reducible refine cb_t ?_ | with_reducible refine cb_f ?_ | with_reducible refine cb_yes (by first | assumption | omega) ?_ | with_reducible refine cb_no (by first | assumption | omega) ?_ | refine And.intro (by decide +kernel) ?_) | (first | (apply Wv; (focus (first | exact step_ok rfl rfl | exact o_idx rfl rfl rfl rfl (by first | assumption | omega | decide) | exact o_idx3 rfl rfl rfl rfl (by first | assumption | omega | decide) | exact o_idx2 rfl rfl rfl rfl rfl (by first | assumption | omega | decide) | exact o_idxr rfl rfl rfl rfl rfl rfl | exact o_lenm rfl rfl rfl | exact o_len rfl rfl rfl | exact o_len0 rfl rfl rfl | exact o_lens rfl rfl rfl | exact o_lent rfl rfl | exact o_add1 rfl rfl rfl (by omega) | exact o_addn rfl rfl rfl (by omega) | exact o_add rfl rfl rfl (by omega) | exact o_sub1 rfl rfl rfl (by omega) | exact o_sub rfl rfl rfl (by omega) | exact o_mul rfl rfl rfl (by omega) | exact o_rem rfl rfl rfl (by omega) | exact ok_rem rfl rfl rfl (by decide) rfl | exact o_eqKey rfl rfl rfl | exact o_neKey rfl rfl rfl | exact o_eqVl rfl rfl rfl | exact o_neVl rfl rfl rfl | exact o_eqEnt rfl rfl rfl | exact o_neEnt rfl rfl rfl | exact o_eqMsg rfl rfl rfl | exact o_neMsg rfl rfl rfl | exact o_acall rfl rfl rfl rfl (by assumption) | exact o_minn rfl rfl rfl | exact o_cutl rfl rfl rfl rfl (by omega) | exact o_cuth rfl rfl rfl rfl (by omega) | exact o_cutl3 rfl rfl rfl rfl (by omega) | exact o_cuth3 rfl rfl rfl rfl (by omega) | exact o_cutl2 rfl rfl rfl rfl rfl (by omega) | exact o_cuth2 rfl rfl rfl rfl rfl (by omega) | exact o_cutlh2 rfl rfl rfl rfl rfl rfl rfl (by omega) (by omega) | exact e_bld rfl rfl rfl | exact e_bldk rfl rfl | exact z_bld0 rfl rfl rfl rfl rfl | exact z_bld rfl rfl rfl rfl rfl rfl rfl | exact o_addu rfl rfl rfl | exact o_mkfn rfl rfl rfl | exact o_callv rfl rfl rfl rfl rfl rfl (by assumption) | exact o_shr1 rfl rfl rfl | exact o_cviu ⟨_, Try.underlying3⟩ Try.underlying99 rfl rfl (by omega) | exact o_cvui ⟨_, Try.underlying99⟩ Try.underlying3 rfl rfl (by omega) | exact z_blda rfl rfl rfl rfl rfl rfl rfl rfl rfl | exact o_idxa rfl rfl rfl rfl rfl rfl | exact o_idxra rfl rfl rfl rfl rfl rfl rfl | exact o_quo2 rfl rfl rfl (by omega) | exact o_quo rfl rfl rfl (by omega))); (focus (first | exact want_n | exact want_g rfl (by with_reducible rfl)))) | (apply Wb; (focus (first | exact o_box rfl rfl rfl rfl | exact o_app rfl rfl rfl rfl rfl (by first | exact o_many rfl | exact o_one _ _ rfl) (by first | omega | (simp; omega) | simp) (by first | omega | (simp; omega) | simp) | exact o_appn rfl rfl rfl rfl rfl (by first | exact o_many rfl | exact o_one _ _ rfl) (by first | omega | (simp; omega) | simp) (by first | omega | (simp; omega) | simp) | exact o_app1 rfl rfl rfl rfl rfl (by first | exact o_many rfl | exact o_one _ _ rfl) (by exact rfl) (by first | omega | (simp; omega) | simp) (by first | omega | (simp; omega) | simp) | exact o_app0 rfl rfl rfl rfl rfl (by first | exact o_many rfl | exact o_one _ _ rfl) (by first | omega | (simp; omega) | simp) (by first | omega | (simp; omega) | simp) | exact o_bsl0 rfl rfl rfl | exact z_bsll rfl rfl rfl rfl rfl rfl rfl rfl rfl | exact z_alloc rfl rfl rfl)); (focus (first | exact want_n | exact want_g rfl (by with_reducible rfl)))) | (apply Ws; (focus (exact ok_store tabT (d := none) rfl rfl rfl rfl rfl rfl rfl rfl rfl rfl)); (focus (first | exact want_n | exact want_g rfl (by with_reducible rfl)))) | (refine Wskip (by first | exact want_f rfl (by with_reducible exact b_nt) | exact want_f rfl (by with_reducible exact b_nf) | exact want_t rfl) rfl ?_) | refine Wgt rfl rfl (by first | assumption | omega | exact rfl) ?_ | refine Wgf rfl rfl (by first | assumption | omega | exact rfl) ?_ | (refine Wgb rfl rfl (by with_reducible assumption) ?_) | (refine cb_is _ (by assumption) ?_)))); exact kHid.out) : Q := h ⟨k⟩
theorem wB {Q R : Prop} (k : R) (h : Hid R → Q := by intro kHid; (repeat (first | (first | refine Wend _ ?_ | refine AW_seq ?_ | refine AW_reg ?_ | refine AW_drw mixed ?_ | refine AW_block ?_ | refine AW_scope ?_ | refine thenA_n ?_ | refine blockA_n ?_ | refine blockA_h ?_ | refine scopeA_n ?_ | refine thenA_r ?_ | refine blockA_r ?_ | refine scopeA_r ?_ | refine thenA_e ?_ | refine scopeA_e ?_ | refine blockA_e rfl ?_ | refine AW_exit ?_ | refine AW_ret ?_ | refine AW_skip ?_ | refine AW_c rfl ?_ | with_reducible refine cb_t ?_ | with_reducible refine cb_f ?_ | with_reducible refine cb_yes (by first | assumption | omega) ?_ | with_reducible refine cb_no (by first | assumption | omega) ?_ | refine And.intro (by decide +kernel) ?_) | (first | (apply Wv; (focus (first | exact step_ok rfl rfl | exact o_idx rfl rfl rfl rfl (by first | assumption | omega | decide) | exact o_idx3 rfl rfl rfl rfl (by first | assumption | omega | decide) | exact o_idxr rfl rfl rfl rfl rfl rfl | exact o_lenm rfl rfl rfl | exact o_len rfl rfl rfl | exact o_len0 rfl rfl rfl | exact o_add1 rfl rfl rfl (by omega) | exact o_add rfl rfl rfl (by omega) | exact o_sub1 rfl rfl rfl (by omega) | exact o_sub rfl rfl rfl (by omega) | exact o_acall rfl rfl rfl rfl (by assumption) | exact e_bld rfl rfl rfl)); (focus (first | exact want_n | exact want_g rfl (by with_reducible rfl)))) | (apply Wb; (focus (first | exact o_box rfl rfl rfl rfl | exact o_app rfl rfl rfl rfl rfl (by first | exact o_many rfl | exact o_one _ _ rfl) (by first | omega | (simp; omega) | simp) (by first | omega | (simp; omega) | simp) | exact o_appn rfl rfl rfl rfl rfl (by first | exact o_many rfl | exact o_one _ _ rfl) (by first | omega | (simp; omega) | simp) (by first | omega | (simp; omega) | simp) | exact o_app1 rfl rfl rfl rfl rfl (by first | exact o_many rfl | exact o_one _ _ rfl) (by exact rfl) (by first | omega | (simp; omega) | simp) (by first | omega | (simp; omega) | simp) | exact o_app0 rfl rfl rfl rfl rfl (by first | exact o_many rfl | exact o_one _ _ rfl) (by first | omega | (simp; omega) | simp) (by first | omega | (simp; omega) | simp) | exact o_bsl0 rfl rfl rfl | exact z_bsll rfl rfl rfl rfl rfl rfl rfl rfl rfl | exact z_alloc rfl rfl rfl)); (focus (first | exact want_n | exact want_g rfl (by with_reducible rfl)))) | (apply Ws; (focus (exact ok_store tabT (d := none) rfl rfl rfl rfl rfl rfl rfl rfl rfl rfl)); (focus (first | exact want_n | exact want_g rfl (by with_reducible rfl)))) | (refine Wskip (by first | exact want_f rfl (by with_reducible exact b_nt) | exact want_f rfl (by with_reducible exact b_nf) | exact want_t rfl) rfl ?_) | refine Wgt rfl rfl (by first | assumption | omega | exact rfl) ?_ | refine Wgf rfl rfl (by first | assumption | omega | exact rfl) ?_ | (refine Wgb rfl rfl (by with_reducible assumption) ?_) | (refine cb_is _ (by assumption) ?_)))); exact kHid.out) : Q := h ⟨k⟩
theorem wC {Q R : Prop} (k : R) (h : Hid R → Q := by intro kHid; (repeat (first | (first | refine Wend _ ?_ | refine AW_seq ?_ | refine AW_reg ?_ | refine AW_drw mixed ?_ | refine AW_block ?_ | refine AW_scope ?_ | refine thenA_n ?_ | refine blockA_n ?_ | refine blockA_h ?_ | refine scopeA_n ?_ | refine thenA_r ?_ | refine blockA_r ?_ | refine scopeA_r ?_ | refine thenA_e ?_ | refine scopeA_e ?_ | refine blockA_e rfl ?_ | refine AW_exit ?_ | refine AW_ret ?_ | refine AW_skip ?_ | refine AW_c rfl ?_ | with_reducible refine cb_t ?_ | with_reducible refine cb_f ?_ | with_reducible refine cb_yes (by first | assumption | omega) ?_ | with_reducible refine cb_no (by first | assumption | omega) ?_ | refine And.intro (by decide +kernel) ?_) | (first | (apply Wv; (focus (first | exact step_ok rfl rfl | exact o_add1 rfl rfl rfl (by omega) | exact o_add rfl rfl rfl (by omega) | exact o_sub1 rfl rfl rfl (by omega) | exact o_sub rfl rfl rfl (by omega) | exact o_eqKey rfl rfl rfl | exact o_neKey rfl rfl rfl | exact o_eqVl rfl rfl rfl | exact o_neVl rfl rfl rfl | exact o_acall rfl rfl rfl rfl (by assumption) | exact z_bld0 rfl rfl rfl rfl rfl | exact z_bld rfl rfl rfl rfl rfl rfl rfl | exact o_addu rfl rfl rfl)); (focus (first | exact want_n | exact want_g rfl (by with_reducible rfl)))) | (apply Wb; (focus (first | exact o_box rfl rfl rfl rfl | exact z_alloc rfl rfl rfl)); (focus (first | exact want_n | exact want_g rfl (by with_reducible rfl)))) | (apply Ws; (focus (exact ok_store tabT (d := none) rfl rfl rfl rfl rfl rfl rfl rfl rfl rfl)); (focus (first | exact want_n | exact want_g rfl (by with_reducible rfl)))) | (refine Wskip (by first | exact want_f rfl (by with_reducible exact b_nt) | exact want_f rfl (by with_reducible exact b_nf) | exact want_t rfl) rfl ?_) | refine Wgt rfl rfl (by first | assumption | omega | exact rfl) ?_ | refine Wgf rfl rfl (by first | assumption | omega | exact rfl) ?_ | (refine Wgb rfl rfl (by with_reducible assumption) ?_) | (refine cb_is _ (by assumption) ?_)))); exact kHid.out) : Q := h ⟨k⟩
end Go.Proofs.Ytkpjkfjlpiidbaa

namespace Go.Proofs.Ytkpjkfjlpiidbaa
open Go Go.RowKit
set_option linter.unusedVariables false
set_option linter.unusedSimpArgs false
set_option maxRecDepth 100000

def nodeA (leaf : Bool) (es ks ps ms : AV) : AV := .agg 5 [boolA leaf, es, ks, ps, ms]
def nilA : AV := .v (.slice none 0 0)
theorem zero_Node : ZeroOk Try.prog 27 (nodeA false nilA nilA nilA nilA) := zero_of (v := .agg #[.bool false, .slice none 0 0, .slice none 0 0, .slice none 0 0, .slice none 0 0]) (n := 5) (by kernel_rfl) fun U w => by
  simp only [nodeA, nilA, boolA, Rd, Rds, Value.cells]
  exact ⟨rfl, [_], _, rfl, ⟨rfl, rfl⟩, [_], _, rfl, ⟨rfl, rfl⟩, [_], _, rfl, ⟨rfl, rfl⟩, [_], _, rfl, ⟨rfl, rfl⟩, [_], _, rfl, ⟨rfl, rfl⟩, rfl⟩
theorem zero_Leafy : ZeroOk Try.prog 66 (nodeA false nilA nilA nilA nilA) := zero_of (v := .agg #[.bool false, .slice none 0 0, .slice none 0 0, .slice none 0 0, .slice none 0 0]) (n := 5) (by kernel_rfl) fun U w => by
  simp only [nodeA, nilA, boolA, Rd, Rds, Value.cells]
  exact ⟨rfl, [_], _, rfl, ⟨rfl, rfl⟩, [_], _, rfl, ⟨rfl, rfl⟩, [_], _, rfl, ⟨rfl, rfl⟩, [_], _, rfl, ⟨rfl, rfl⟩, [_], _, rfl, ⟨rfl, rfl⟩, rfl⟩
theorem zero_Inner : ZeroOk Try.prog 62 (nodeA false nilA nilA nilA nilA) := zero_of (v := .agg #[.bool false, .slice none 0 0, .slice none 0 0, .slice none 0 0, .slice none 0 0]) (n := 5) (by kernel_rfl) fun U w => by
  simp only [nodeA, nilA, boolA, Rd, Rds, Value.cells]
  exact ⟨rfl, [_], _, rfl, ⟨rfl, rfl⟩, [_], _, rfl, ⟨rfl, rfl⟩, [_], _, rfl, ⟨rfl, rfl⟩, [_], _, rfl, ⟨rfl, rfl⟩, [_], _, rfl, ⟨rfl, rfl⟩, rfl⟩
section
variable {E : Env} {nt : Nat} {ops : Array Oper} {T : Nat → Option AV} {H : Hp} {d : Option Nat} {ty : TypeId} {pos : String} {af : Array Edge} {gd : Option (Nat × Bool)}
theorem o_app1 {α : Type} {f : α → AV} {s x : Operand} {t tx e : TypeId} {es bytes : Nat} {ea : Bool} {tk : Nat} {x0 : α} {y0 : AV} {zs : List α} {src : AV} (hd : dOk nt d = true) (hs : tabT.ti t = some (.sl e es bytes ea))
    (hy : evalO T x = some src) (hx : evalO T s = some (.sl (some tk) es [y0])) (hg : H tk = some (.tail e es 1)) (hsrc : SrcOf Try.prog tx es src (zs.map f)) (h0 : y0 = f x0) (hlen : (1 + zs.length) * bytes ≤ 140737488355328) (hlen2 : 1 + zs.length ≤ 9223372036854775807) :
    OpOK Try.prog E nt ops ⟨d, .call { callee := .builtin .append, args := #[s, x], argTypes := #[t, tx] }, ty, pos, af, gd⟩ T H [tk] ⟨.sl (some tk) es ((x0 :: zs).map f), [(tk, .tail e es (x0 :: zs).length)]⟩ :=
  o_app (f := f) (xs := [x0]) (zs := zs) hd hs (by rw [hx, h0]; rfl) hg hy hsrc (by simpa using hlen) (by simpa using hlen2)
end
theorem res_varw {S : St} {a t g n : Nat} {fs ys : List AV} (ha : S.t a = some (.ptr g 0 [])) (hg : S.h g = some (.var (.agg n fs))) (hs : tabT.sa t = some (true, n)) (hw : weakA fs = some ys) : Res1 Try.prog S (.cell a t) (.agg n ys) := ⟨g, .agg n fs, ha, hg, tabT.tyOf hs, Wk.agg (weakA_wkl _ _ hw)⟩
end Go.Proofs.Ytkpjkfjlpiidbaa

namespace Go.Proofs.Ytkpjkfjlpiidbaa
open Go Go.RowKit
set_option linter.unusedVariables false
set_option linter.unusedSimpArgs false
set_option maxRecDepth 100000

theorem sumS_u {n : Nat} : ∀ (zs : List AV) (i : Nat), (∀ z ∈ zs, sizeA z = n) → i ≤ zs.length → sumS (zs.take i) = i * n
  | zs, 0, h, hi => by simp [sumS]
  | [], i + 1, h, hi => by simp at hi
  | z :: zs, i + 1, h, hi => by
    simp only [List.take_succ_cons, sumS]
    rw [sumS_u zs i (fun z hz => h z (List.mem_cons_of_mem _ hz)) (by simpa using hi), h z (by simp), Nat.succ_mul]
    omega
section
variable {P : Program} {E : Env} {nt : Nat} {ops : Array Oper} {T : Nat → Option AV} {H : Hp} {d : Option Nat} {ty : TypeId} {pos : String} {af : Array Edge} {gd : Option (Nat × Bool)} (tb : Tab P)
theorem ok_bldarr {t e : TypeId} {tn len es : Nat} {ea : Bool} {l : List (Nat × Operand)} {vs : List (Nat × AV)} {zs out ys : List AV} (hd : dOk nt d = true) (hs : tb.ti t = some (.arr tn len es ea e)) (hz : ZeroOk P t (.arr tn es zs)) (hv : partsA T l = some vs) (ho : fillA vs zs = some out) (hw : ∀ H', WkL H' out ys)
    (hzs : zs.all (fun x => Nat.beq (sizeA x) es) = true) (hos : out.all (fun x => Nat.beq (sizeA x) es) = true) (hlen : out.length = zs.length) :
    OpOK P E nt ops ⟨d, .build t l.toArray, ty, pos, af, gd⟩ T H [] ⟨.arr tn es ys, []⟩ :=
  ok_val hd fun B T' H' a w r ht hh => by
    obtain ⟨⟨_, hu0, _, _⟩, hu, hte⟩ := tb.ok t _ hs
    obtain ⟨i, zv, z1, z2, z3⟩ := hz
    have hzr := z3 (unst E B H') w
    simp only [Rd] at hzr
    have hzl : ∀ z ∈ zs, sizeA z = es := fun x hx => Nat.eq_of_beq_eq_true (List.all_eq_true.1 hzs x hx)
    have hol : ∀ z ∈ out, sizeA z = es := fun x hx => Nat.eq_of_beq_eq_true (List.all_eq_true.1 hos x hx)
    have hm := Rdu_rds (Rdu_go (Evo.refl _ w) (fun _ _ _ h => h) _ _ ⟨fun g b h _ => by simp [H0, isVar] at h, fun g h => by simp [H0, isVar] at h, fun t n len A cap h => by obtain ⟨e, k, h, _⟩ := h; simp [H0] at h, fun g n len k v h => by obtain ⟨e, xs, h, _⟩ := h; simp [H0] at h⟩ hzr.2 : Rdu (unst E B H') w es zs B H' _)
    have hv' := parts_agree hv (T' := T') (fun p hp => ht p.2 (by simp [Op.operands]; exact ⟨p.1, hp⟩))
    obtain ⟨cells', q1, q2⟩ := fill_rds r l vs zs out _ hv' ho (place := fun i => some (i * es, es)) (fun i y h => by
      have hlt := (List.getElem?_eq_some_iff.1 h).1
      rw [sumS_u zs i hzl (by omega), hzl y (List.mem_of_getElem? h)]) hm
    have hrdu := (hw H').rdu (Rds_rdu q2 hol)
    have hcl : cells'.length = tn := by
      have e1 := Rdu_len (Rds_rdu q2 hol)
      have e2 := Rdu_len hzr.2
      rw [e1, hlen, ← e2, hzr.1]
    obtain ⟨de, hie⟩ : ∃ ie, P.info? e = some ie ∧ ie.size = es := by
      obtain ⟨_, _, _, h⟩ := hte
      cases hi : P.info? e with
      | none => rw [hi] at h; cases h
      | some ie => rw [hi] at h; simp at h; exact ⟨ie, rfl, h⟩
    have hb : P.built t (l.map fun p => (p.1, a.eval p.2)) = some cells'.toArray := by
      unfold Program.built
      simp only [z1, hu, z2, hie.1, hie.2]
      have := fill_of_fillS _ _ _ q1
      simpa using this
    refine ⟨.agg cells'.toArray, ?_, ?_⟩
    · have hrb := run_build (P := P) w t (l.map fun p => (p.1, a.eval p.2)).toArray cells'.toArray (by simpa using hb)
      simp only [execOp]
      have hm : (Array.map (fun x => (x.1, a.eval x.2)) l.toArray) = (l.map fun p => (p.1, a.eval p.2)).toArray := by simp
      simp only [hm, Sem.run_bind, hrb]
      rfl
    · rw [Rdv_not (by simp)]
      exact ⟨cells', by simp only [Rd]; exact ⟨hcl, hrdu⟩, rfl⟩
end
section
variable {E : Env} {nt : Nat} {ops : Array Oper} {T : Nat → Option AV} {H : Hp} {d : Option Nat} {ty : TypeId} {pos : String} {af : Array Edge} {gd : Option (Nat × Bool)}
set_option maxRecDepth 100000 in
theorem o_blda {t e : TypeId} {tn len es : Nat} {ea : Bool} {l : List (Nat × Operand)} {vs : List (Nat × AV)} {zs out out' : List AV} {z : AV} (hz : ZeroOk Try.prog t z) (hze : z = .arr tn es zs) (hd : dOk nt d = true) (hs : tabT.ti t = some (.arr tn len es ea e)) (hv : partsA T l = some vs) (ho : fillA vs zs = some out) (hw : weakA out = some out')
    (hzs : zs.all (fun x => Nat.beq (sizeA x) es) = true) (hos : out.all (fun x => Nat.beq (sizeA x) es) = true) (hlen : out.length = zs.length) :
    OpOK Try.prog E nt ops ⟨d, .build t l.toArray, ty, pos, af, gd⟩ T H [] ⟨.arr tn es out', []⟩ := by
  subst hze
  exact ok_bldarr tabT hd hs hz hv ho (fun _ => weakA_wkl _ _ hw) hzs hos hlen
/-- an element's address in an array of the function's own -/
theorem o_idxa {x ix : Operand} {t e : TypeId} {tn len es : Nat} {ea : Bool} {g off : Nat} {p : List Nat} {k : IntKind} {i : Int} {j : Nat} (hd : dOk nt d = true) (hs : tabT.ti t = some (.arr tn len es ea e)) (hx : evalO T x = some (.ptr g off p)) (hi : evalO T ix = some (.v (.int k i)))
    (hj : natOf i = some j) (hl : Nat.blt j len = true) : OpOK Try.prog E nt ops ⟨d, .indexAddr t x ix, ty, pos, af, gd⟩ T H [] ⟨.ptr g (off + j * es) (p ++ [j]), []⟩ := by
  have := natOf_eq hj; subst this
  have hl' : j < len := Nat.le_of_ble_eq_true hl
  exact ok_idx_ptr tabT hd hs hx hi (Int.natCast_nonneg j) (by omega)
/-- an element of an array that is handed in -/
theorem o_idxra {x ix : Operand} {t e : TypeId} {tn len es : Nat} {ea : Bool} {m : Nat} {xs : List AV} {k : IntKind} {i : Int} {j : Nat} {y : AV} (hd : dOk nt d = true) (hs : tabT.ti t = some (.arr tn len es ea e)) (hx : evalO T x = some (.ref (.arr m es xs))) (hi : evalO T ix = some (.v (.int k i))) (hj : natOf i = some j) (hl : Nat.blt j len = true) (hy : xs[j]? = some y) :
    OpOK Try.prog E nt ops ⟨d, .indexAddr t x ix, ty, pos, af, gd⟩ T H [] ⟨.ref y, []⟩ := by
  have := natOf_eq hj; subst this
  have hl' : j < len := Nat.le_of_ble_eq_true hl
  exact ok_idx_refarr tabT hd hs hx hi (Int.natCast_nonneg j) (by omega) (by simpa using hy)
end

/-! ### zero values, by a table -/
theorem zero_u64 : ZeroOk Try.prog 46 (u64A 0#64) := zero_of (v := .int .u64 0) (n := 1) (by kernel_rfl) fun U w => (rd_v rfl).2 (by rw [D64_zero]; rfl)
theorem zero_bool : ZeroOk Try.prog 4 (boolA false) := zero_of (v := .bool false) (n := 1) (by kernel_rfl) fun U w => (rd_v rfl).2 rfl
theorem zero_slents : ZeroOk Try.prog 23 (.v (.slice none 0 0)) := zero_of (v := .slice none 0 0) (n := 1) (by kernel_rfl) fun U w => (rd_v rfl).2 rfl
theorem zero_slmsgs : ZeroOk Try.prog 25 (.v (.slice none 0 0)) := zero_of (v := .slice none 0 0) (n := 1) (by kernel_rfl) fun U w => (rd_v rfl).2 rfl
def zeroT (t : TypeId) : Option AV :=
  bif Nat.beq t 40 then some Key.zero.av else
  bif Nat.beq t 43 then some Vl.zero.av else
  bif Nat.beq t 48 then some Msg.zero.av else
  bif Nat.beq t 45 then some Ent.zero.av else
  bif Nat.beq t 27 then some (nodeA false nilA nilA nilA nilA) else
  bif Nat.beq t 66 then some (nodeA false nilA nilA nilA nilA) else
  bif Nat.beq t 62 then some (nodeA false nilA nilA nilA nilA) else
  bif Nat.beq t 3 then some (intA 0) else
  bif Nat.beq t 5 then some (byteA 0#8) else
  bif Nat.beq t 46 then some (u64A 0#64) else
  bif Nat.beq t 4 then some (boolA false) else
  bif Nat.beq t 22 then some (.v (.slice none 0 0)) else
  bif Nat.beq t 24 then some (.v (.slice none 0 0)) else
  bif Nat.beq t 23 then some (.v (.slice none 0 0)) else
  bif Nat.beq t 25 then some (.v (.slice none 0 0)) else none
theorem bif_ok {t u : TypeId} {a z : AV} {r : Option AV} (ha : ZeroOk Try.prog u a) (hr : r = some z → ZeroOk Try.prog t z) (h : (bif Nat.beq t u then some a else r) = some z) : ZeroOk Try.prog t z := by
  cases hb : Nat.beq t u with
  | true => rw [hb, cond_true, Option.some.injEq] at h; subst h; have := Nat.eq_of_beq_eq_true hb; subst this; exact ha
  | false => rw [hb, cond_false] at h; exact hr h
set_option maxRecDepth 100000 in
theorem zeroT_ok {t : TypeId} {z : AV} (h : zeroT t = some z) : ZeroOk Try.prog t z := by
  unfold zeroT at h
  refine bif_ok zero_Key (fun h => ?_) h -- 40
  refine bif_ok zero_Vl (fun h => ?_) h -- 43
  refine bif_ok zero_Msg (fun h => ?_) h -- 48
  refine bif_ok zero_Ent (fun h => ?_) h -- 45
  refine bif_ok zero_Node (fun h => ?_) h -- 27
  refine bif_ok zero_Leafy (fun h => ?_) h -- 66
  refine bif_ok zero_Inner (fun h => ?_) h -- 62
  refine bif_ok zero_int (fun h => ?_) h
  refine bif_ok zero_byte (fun h => ?_) h
  refine bif_ok zero_u64 (fun h => ?_) h
  refine bif_ok zero_bool (fun h => ?_) h
  refine bif_ok zero_slints (fun h => ?_) h -- 22
  refine bif_ok zero_slkeys (fun h => ?_) h -- 24
  refine bif_ok zero_slents (fun h => ?_) h
  refine bif_ok zero_slmsgs (fun h => ?_) h
  cases h
section
variable {E : Env} {nt : Nat} {ops : Array Oper} {T : Nat → Option AV} {H : Hp} {d : Option Nat} {ty : TypeId} {pos : String} {af : Array Edge} {gd : Option (Nat × Bool)}
set_option maxRecDepth 100000 in
theorem z_bld {t n : Nat} {fs : List (Nat × Nat × Bool)} {l : List (Nat × Operand)} {vs : List (Nat × AV)} {zs out out' : List AV} (hz : zeroT t = some (.agg n zs)) (hd : dOk nt d = true) (hs : tabT.ti t = some (.st n fs)) (hv : partsA T l = some vs) (ho : fillA vs zs = some out) (hf : forceA out = some out') (hp : placesOk 0 zs fs = true) :
    OpOK Try.prog E nt ops ⟨d, .build t l.toArray, ty, pos, af, gd⟩ T H [] ⟨.agg n out', []⟩ := o_bld (zeroT_ok hz) rfl hd hs hv ho hf hp
set_option maxRecDepth 100000 in
theorem z_blda {t e : TypeId} {tn len es : Nat} {ea : Bool} {l : List (Nat × Operand)} {vs : List (Nat × AV)} {zs out out' : List AV} (hz : zeroT t = some (.arr tn es zs)) (hd : dOk nt d = true) (hs : tabT.ti t = some (.arr tn len es ea e)) (hv : partsA T l = some vs) (ho : fillA vs zs = some out) (hw : weakA out = some out')
    (hzs : zs.all (fun x => Nat.beq (sizeA x) es) = true) (hos : out.all (fun x => Nat.beq (sizeA x) es) = true) (hlen : out.length = zs.length) :
    OpOK Try.prog E nt ops ⟨d, .build t l.toArray, ty, pos, af, gd⟩ T H [] ⟨.arr tn es out', []⟩ := o_blda (zeroT_ok hz) rfl hd hs hv ho hw hzs hos hlen
set_option maxRecDepth 100000 in
theorem z_alloc {e : TypeId} {z : AV} {g : Nat} (hz : zeroT e = some z) (hd : dOk nt (some g) = true) (hg : H g = none) : OpOK Try.prog E nt ops ⟨some g, .alloc e, ty, pos, af, gd⟩ T H [] ⟨.ptr g 0 [], [(g, .var z)]⟩ := o_alloc (zeroT_ok hz) hd hg
set_option maxRecDepth 100000 in
theorem z_bsll {t e : TypeId} {es bytes len : Nat} {ea : Bool} {l : List (Nat × Operand)} {z : AV} {out ys : List AV} {g : Nat} (hs : tabT.ti t = some (.sl e (es + 1) bytes ea)) (hz : zeroT e = some z) (hzs : sizeA z = es + 1) (hd : dOk nt (some g) = true) (hv : seqA T (es + 1) 0 l = some out) (hg : H g = none)
    (hlen : out.length = len + 1) (hsmall : Nat.ble ((len + 1) * (es + 1)) 16777216 = true) (hw : weakA out = some ys) :
    OpOK Try.prog E nt ops ⟨some g, .buildSlice t (len + 1) l.toArray, ty, pos, af, gd⟩ T H [] ⟨.sl (some g) (es + 1) ys, [(g, .tail e (es + 1) (len + 1))]⟩ := o_bsll (zeroT_ok hz) hzs hd hs hv hg hlen hsmall hw
end
/-! ### entries built whole -/
section
variable {E : Env} {nt : Nat} {ops : Array Oper} {T : Nat → Option AV} {H : Hp} {d : Option Nat} {ty : TypeId} {pos : String} {af : Array Edge} {gd : Option (Nat × Bool)}
set_option maxRecDepth 100000 in
theorem e_bld {x y : Operand} {a : Key} {b : Vl} (hd : dOk nt d = true) (hx : evalO T x = some a.av) (hy : evalO T y = some b.av) : OpOK Try.prog E nt ops ⟨d, .build 45 #[(0, x), (1, y)], ty, pos, af, gd⟩ T H [] ⟨Ent.av ⟨a, b⟩, []⟩ :=
  z_bld (l := [(0, x), (1, y)]) (vs := [(0, a.av), (1, b.av)]) (zs := [Key.zero.av, Vl.zero.av]) (out := [a.av, b.av]) (out' := [a.av, b.av]) (n := 26) rfl hd rfl (by simp only [partsA, hx, hy]; rfl) rfl rfl rfl
set_option maxRecDepth 100000 in
theorem e_bldk {x : Operand} {a : Key} (hd : dOk nt d = true) (hx : evalO T x = some a.av) : OpOK Try.prog E nt ops ⟨d, .build 45 #[(0, x)], ty, pos, af, gd⟩ T H [] ⟨Ent.av ⟨a, Vl.zero⟩, []⟩ :=
  z_bld (l := [(0, x)]) (vs := [(0, a.av)]) (zs := [Key.zero.av, Vl.zero.av]) (out := [a.av, Vl.zero.av]) (out' := [a.av, Vl.zero.av]) (n := 26) rfl hd rfl (by simp only [partsA, hx]; rfl) rfl rfl rfl
theorem o_quo2 {t t' : TypeId} {x y : Operand} {a : Nat} (hd : dOk nt d = true) (hx : evalO T x = some (.v (.int .i64 (a : Nat)))) (hy : evalO T y = some (.v (.int .i64 2))) (h : a ≤ 9223372036854775807) : OpOK Try.prog E nt ops ⟨d, .binOp .quo t x y t', ty, pos, af, gd⟩ T H [] ⟨.v (.int .i64 ((a / 2 : Nat) : Int)), []⟩ := by
  have := o_quo (E := E) (ops := ops) (H := H) (ty := ty) (pos := pos) (af := af) (gd := gd) (t := t) (t' := t') hd hx hy (by omega)
  rwa [show ((a : Nat) : Int) / 2 = ((a / 2 : Nat) : Int) from by omega] at this
end
end Go.Proofs.Ytkpjkfjlpiidbaa

namespace Go.Proofs.Ytkpjkfjlpiidbaa
open Go Go.RowKit
set_option linter.unusedVariables false
set_option linter.unusedSimpArgs false
set_option maxRecDepth 100000

/-- a pointer to a variable that stays as it is -/
theorem Go2.ref {E : Env} {nt : Nat} {T : List (Nat × AV)} {H : List (Nat × Bx)} (s g : Nat) {x : AV} (hs : look s T = some (.ptr g 0 [])) (hg : look g H = some (.froz x)) (hd : dataA x = true) : Go2 E nt ⟨T, H⟩ ⟨(s, .ref x) :: T, H⟩ := fun B a w r => by
  refine ⟨B, r.nt, r.df, fun s' y hx => ?_, r.box, r.non, r.inj, r.left, r.keep⟩
  have eT : St.t ⟨(s, AV.ref x) :: T, H⟩ = upd (St.t ⟨T, H⟩) s (.ref x) := look_cons _ _ _
  rw [eT] at hx
  by_cases h : s' = s
  · subst h
    rw [upd_same] at hx
    injection hx with hx
    subst hx
    obtain ⟨v, h1, h2⟩ := r.tmp s' _ hs
    refine ⟨v, h1, ?_⟩
    have h3 := Rdv_one (by simp) h2 rfl
    simp only [Rd] at h3
    obtain ⟨_, b, k1, k4⟩ := h3
    injection k4 with k4
    subst k4
    obtain ⟨b', cs, q1, q2, q3, q4⟩ := r.box g _ hg
    rw [k1] at q1; injection q1 with q1; subst q1
    rw [Rdv_not (by simp)]
    exact ⟨[_], by simp only [Rd]; exact ⟨b, 0, cs, rfl, q2, q3, Rd_data x hd q4⟩, rfl⟩
  · rw [upd_ne _ _ h] at hx
    exact r.tmp s' y hx
theorem Rdp_append {U : Uns} {w : World} {B : Blk} {H : Hp} : ∀ {xs ys : List AV} {us vs : List Value}, Rdp U w xs B H us → Rdp U w ys B H vs → Rdp U w (xs ++ ys) B H (us ++ vs)
  | [], ys, us, vs, h1, h2 => by
    simp only [Rdp] at h1
    subst h1
    exact h2
  | x :: xs, ys, us, vs, h1, h2 => by
    simp only [Rdp] at h1
    obtain ⟨c, us', rfl, k1, k2⟩ := h1
    simp only [List.cons_append, Rdp]
    exact ⟨c, us' ++ vs, rfl, k1, Rdp_append k2 h2⟩
section
variable {P : Program} {E : Env} {nt : Nat} {ops : Array Oper} {T : Nat → Option AV} {H : Hp} {d : Option Nat} {ty : TypeId} {pos : String} {af : Array Edge} {gd : Option (Nat × Bool)}
theorem args_rdp {E : Env} {nt : Nat} {B : Blk} {T' : Nat → Option AV} {H' : Hp} {a : Act} {w : World} (r : Rel E nt B T' H' a w) : ∀ (l : List Operand) (zs : List AV), l.map (evalO T') = zs.map some → (∀ z ∈ zs, ∀ us, z ≠ .tup us) → Rdp (unst E B H') w zs B H' (l.map a.eval) := by
  intro l
  induction l with
  | nil =>
    intro zs h _
    have : zs = [] := by simpa using h.symm
    subst this
    simp [Rdp]
  | cons o l ih =>
    intro zs h hn
    cases zs with
    | nil => simp at h
    | cons z zs =>
      simp only [List.map_cons, List.cons.injEq] at h
      have ho := r.eval h.1
      rw [Rdv_not (hn z List.mem_cons_self)] at ho
      obtain ⟨c, h1, h2⟩ := ho
      simp only [List.map_cons, Rdp]
      exact ⟨c, _, by rw [h2], h1, ih zs h.2 (fun z hz => hn z (List.mem_cons_of_mem _ hz))⟩
theorem map_agree {T T' : Nat → Option AV} {l : List Operand} {zs : List AV} (h : l.map (evalO T) = zs.map some) (ht : ∀ y ∈ l, evalO T' y = evalO T y) : l.map (evalO T') = zs.map some := by
  rw [← h]
  exact List.map_congr_left ht
theorem ok_mkfn {f : FuncId} {l : List Operand} {xs : List AV} (hd : dOk nt d = true) (hx : l.map (evalO T) = xs.map some) (hnt : xs.all notTup = true) :
    OpOK P E nt ops ⟨d, .makeFunc (.func f) #[] l.toArray, ty, pos, af, gd⟩ T H [] ⟨.fn (.func f) [] xs, []⟩ :=
  ok_val hd fun B T' H' a w r ht hh => by
    have h1 := args_rdp r l xs (map_agree hx (fun y hy => ht y (by simp [Op.operands]; exact hy))) (fun z hz => notTup_ne (List.all_eq_true.1 hnt z hz))
    refine ⟨.func (.func f) #[] (l.map a.eval).toArray, ?_, ?_⟩
    · have hm : Array.map a.eval l.toArray = (l.map a.eval).toArray := by simp
      simp [execOp, Instr.makeFunc, hm]
    · rw [Rdv_not (by simp)]
      refine ⟨[_], ?_, rfl⟩
      simp only [Rd]
      exact ⟨[], _, rfl, by simp [Rdp], h1⟩
theorem ok_callv {f : FuncId} {fn : Func} {x : Operand} {l : List Operand} {ats : Array TypeId} {caps xs ys : List AV} {y : AV} (hd : dOk nt d = true) (hf : P.funcs[f]? = some fn) (hb : fn.body.isSome = true) (hnm : (fn.name == "runtime.NumGoroutine") = false)
    (hxf : evalO T x = some (.fn (.func f) [] caps)) (hcd : dataL caps = true) (hx : l.map (evalO T) = xs.map some) (hc : AFn P f (ys ++ caps) y) (hw : ∀ H', WkL H' xs ys) (hnt : xs.all notTup = true) : OpOK P E nt ops ⟨d, .call { callee := .value x, args := l.toArray, argTypes := ats }, ty, pos, af, gd⟩ T H [] ⟨y, []⟩ := by
  intro T' H' ht _ _ B a w r K Q hK
  have hxs := args_rdp r l xs (map_agree hx (fun y hy => agree_op ht (by simp [Op.operands, Call.operands]; exact .inr hy))) (fun z hz => notTup_ne (List.all_eq_true.1 hnt z hz))
  have hys := (hw H').rdp hxs
  have hfv := Rdv_one (by simp) (r.eval ((agree_op ht (x := x) (by simp [Op.operands, Call.operands])).trans hxf)) rfl
  simp only [Rd] at hfv
  obtain ⟨c1, c2, e1, e2, e3⟩ := hfv
  simp only [Rdp] at e2
  subst e2
  injection e1 with e1
  have h2 := hc _ w _ (Rdp_append hys (Rdp_data caps hcd e3))
  unfold Oper.wp
  have he : (execOp a.eval ⟨d, .call { callee := .value x, args := l.toArray, argTypes := ats }, ty, pos, af, gd⟩).run P w = .ok (.enter f (l.map a.eval ++ c2).toArray) w := by
    have hb' : fn.body ≠ none := by cases h : fn.body <;> simp_all
    have hn' : fn.name ≠ "runtime.NumGoroutine" := by simpa using hnm
    have ha : (l.map a.eval ++ c2).toArray = (l.toArray.map a.eval) ++ c2.toArray := by apply Array.ext'; simp
    rw [ha]
    simp [execOp, resolve, Deferred.ofValue, e1, invoke, callFunc, hf, hn', hb']
  rw [he]
  refine Calls.mono h2 ?_
  rintro e w' ⟨v, rfl, h3, h4⟩
  exact hK B _ w' ((r.ext h4).put hd (Rdv_free (Rdv_sub (fun b o h => ⟨r.unst_lt h, h⟩) h3)))
theorem ok_shr {t t' : TypeId} {x y : Operand} {k k' : IntKind} {a b c : Int} (hd : dOk nt d = true) (hx : evalO T x = some (.v (.int k a))) (hy : evalO T y = some (.v (.int k' b))) (h0 : 0 ≤ b) (hc : a.fdiv (2 ^ min b.toNat k.bits) = c) : OpOK P E nt ops ⟨d, .binOp .shr t x y t', ty, pos, af, gd⟩ T H [] ⟨.v (.int k c), []⟩ :=
  ok_bin hd hx hy (fun w => by subst hc; simp [eqGuard, binOp, Op.shift, show ¬ b < 0 by omega]) rfl
end
section
variable {E : Env} {nt : Nat} {ops : Array Oper} {T : Nat → Option AV} {H : Hp} {d : Option Nat} {ty : TypeId} {pos : String} {af : Array Edge} {gd : Option (Nat × Bool)}
theorem o_mkfn {f : FuncId} {l : List Operand} {xs : List AV} (hd : dOk nt d = true) (hx : argsA T l = some xs) (hnt : xs.all notTup = true) :
    OpOK Try.prog E nt ops ⟨d, .makeFunc (.func f) #[] l.toArray, ty, pos, af, gd⟩ T H [] ⟨.fn (.func f) [] xs, []⟩ := ok_mkfn hd (argsA_map hx) hnt
theorem o_callv {f : FuncId} {x : Operand} {l : List Operand} {ats : Array TypeId} {caps xs ys : List AV} {y : AV} (hd : dOk nt d = true) (hxf : evalO T x = some (.fn (.func f) [] caps)) (hcd : dataL caps = true) (hx : argsA T l = some xs) (hw : weakA xs = some ys) (hnt : xs.all notTup = true) (hc : ACall f (ys ++ caps) y) :
    OpOK Try.prog E nt ops ⟨d, .call { callee := .value x, args := l.toArray, argTypes := ats }, ty, pos, af, gd⟩ T H [] ⟨y, []⟩ := by
  obtain ⟨fn, h1, h2, h3, h4⟩ := hc
  exact ok_callv hd h1 h2 h3 hxf hcd (argsA_map hx) h4 (fun _ => weakA_wkl _ _ hw) hnt
/-- half of a number, by a shift -/
theorem o_shr1 {t t' : TypeId} {x y : Operand} {a : Nat} (hd : dOk nt d = true) (hx : evalO T x = some (.v (.int .u64 (a : Nat)))) (hy : evalO T y = some (.v (.int .u64 1))) : OpOK Try.prog E nt ops ⟨d, .binOp .shr t x y t', ty, pos, af, gd⟩ T H [] ⟨.v (.int .u64 ((a / 2 : Nat) : Int)), []⟩ :=
  ok_shr hd hx hy (by omega) (by
    rw [Int.fdiv_eq_ediv_of_nonneg _ (by decide)]
    show (a : Int) / 2 ^ min 1 64 = _
    norm_cast)
theorem o_cviu {s t : TypeId} {x : Operand} {n : Nat} (hs : ∃ u, Try.prog.underlying s = some u) (ht : Try.prog.underlying t = some (.int .u64)) (hd : dOk nt d = true) (hx : evalO T x = some (.v (.int .i64 (n : Nat)))) (hn : n ≤ 9223372036854775807) : OpOK Try.prog E nt ops ⟨d, .convert s t x, ty, pos, af, gd⟩ T H [] ⟨.v (.int .u64 (n : Nat)), []⟩ :=
  ok_conv_i hs ht hd hx (by simp [IntKind.wrap, IntKind.bits, IntKind.signed]; omega)
theorem o_cvui {s t : TypeId} {x : Operand} {n : Nat} (hs : ∃ u, Try.prog.underlying s = some u) (ht : Try.prog.underlying t = some (.int .i64)) (hd : dOk nt d = true) (hx : evalO T x = some (.v (.int .u64 (n : Nat)))) (hn : n ≤ 9223372036854775807) : OpOK Try.prog E nt ops ⟨d, .convert s t x, ty, pos, af, gd⟩ T H [] ⟨.v (.int .i64 (n : Nat)), []⟩ :=
  ok_conv_i hs ht hd hx (IntWalk.i64_in _ (by omega))
end
end Go.Proofs.Ytkpjkfjlpiidbaa

namespace Go.Proofs.Ytkpjkfjlpiidbaa
open Go Go.RowKit
set_option linter.unusedVariables false
set_option linter.unusedSimpArgs false
set_option maxRecDepth 100000

/-! ### the order of texts -/
def lexCmp : List (BitVec 8) → List (BitVec 8) → Int
  | [], [] => 0
  | [], _ :: _ => -1
  | _ :: _, [] => 1
  | a :: l, b :: m => if a.toNat < b.toNat then -1 else if b.toNat < a.toNat then 1 else lexCmp l m
theorem compareBytes_eq : ∀ (l m : List (BitVec 8)), Lib.compareBytes (bytesOf l).data.toList (bytesOf m).data.toList = lexCmp l m
  | [], [] => by rw [bytesOf_def]; simp [Lib.compareBytes, lexCmp]
  | [], _ :: _ => by rw [bytesOf_def, bytesOf_def]; simp [Lib.compareBytes, lexCmp]
  | _ :: _, [] => by rw [bytesOf_def, bytesOf_def]; simp [Lib.compareBytes, lexCmp]
  | a :: l, b :: m => by
    have ih := compareBytes_eq l m
    have e1 : (bytesOf (a :: l)).data.toList = UInt8.ofBitVec a :: (bytesOf l).data.toList := by rw [bytesOf_def, bytesOf_def]; simp
    have e2 : (bytesOf (b :: m)).data.toList = UInt8.ofBitVec b :: (bytesOf m).data.toList := by rw [bytesOf_def, bytesOf_def]; simp
    rw [e1, e2, Lib.compareBytes, lexCmp, ih]
    have h1 : (UInt8.ofBitVec a < UInt8.ofBitVec b) = (a.toNat < b.toNat) := rfl
    have h2 : (UInt8.ofBitVec b < UInt8.ofBitVec a) = (b.toNat < a.toNat) := rfl
    simp only [h1, h2]
theorem lexCmp_nn : lexCmp [] [] = 0 := by simp [lexCmp]
theorem lexCmp_nc (b : BitVec 8) (l : List (BitVec 8)) : lexCmp [] (b :: l) = -1 := by simp [lexCmp]
theorem lexCmp_cn (b : BitVec 8) (l : List (BitVec 8)) : lexCmp (b :: l) [] = 1 := by simp [lexCmp]
/-- how many texts of so many bytes at most -/
def many8 : Nat → Nat
  | 0 => 1
  | m + 1 => 1 + 256 * many8 m
/-- a text's rank among those of so many bytes at most -/
def rk : Nat → List (BitVec 8) → Nat
  | 0, _ => 0
  | _ + 1, [] => 0
  | m + 1, b :: l => 1 + b.toNat * many8 m + rk m l
theorem rk_lt : ∀ (m : Nat) (l : List (BitVec 8)), rk m l < many8 m
  | 0, _ => by simp [rk, many8]
  | m + 1, [] => by simp [rk, many8]; omega
  | m + 1, b :: l => by
    have h := rk_lt m l
    have hb := b.isLt
    have h2 : b.toNat * many8 m + many8 m ≤ 256 * many8 m := by rw [← Nat.succ_mul]; exact Nat.mul_le_mul_right _ (by omega)
    simp only [rk, many8]; generalize b.toNat * many8 m = q at *; omega
def sgn (a b : Nat) : Int := if a < b then -1 else if b < a then 1 else 0
theorem sgn_lt {a b : Nat} (h : a < b) : sgn a b = -1 := by unfold sgn; rw [if_pos h]
theorem sgn_gt {a b : Nat} (h : b < a) : sgn a b = 1 := by unfold sgn; rw [if_neg (by omega), if_pos h]
theorem sgn_same (a : Nat) : sgn a a = 0 := by unfold sgn; rw [if_neg (by omega), if_neg (by omega)]
theorem lexCmp_rk : ∀ (m : Nat) (k l : List (BitVec 8)), k.length ≤ m → l.length ≤ m → lexCmp k l = sgn (rk m k) (rk m l)
  | _, [], [], _, _ => by simp [lexCmp, sgn]
  | 0, [], _ :: _, _, h => by simp at h
  | 0, _ :: _, _, h, _ => by simp at h
  | m + 1, [], b :: l, _, _ => by rw [lexCmp_nc]; exact (sgn_lt (by simp only [rk]; omega)).symm
  | m + 1, a :: k, [], _, _ => by rw [lexCmp_cn]; exact (sgn_gt (by simp only [rk]; omega)).symm
  | m + 1, a :: k, b :: l, h1, h2 => by
    have ih := lexCmp_rk m k l (by simpa using h1) (by simpa using h2)
    have hk := rk_lt m k
    have hl := rk_lt m l
    simp only [lexCmp, rk]
    rcases Nat.lt_trichotomy a.toNat b.toNat with hab | hab | hab
    · have : a.toNat * many8 m + many8 m ≤ b.toNat * many8 m := by rw [← Nat.succ_mul]; exact Nat.mul_le_mul_right _ (by omega)
      generalize a.toNat * many8 m = p at *
      generalize b.toNat * many8 m = q at *
      rw [if_pos hab]; unfold sgn; rw [if_pos (by omega)]
    · rw [if_neg (by omega), if_neg (by omega), ih, hab]
      generalize b.toNat * many8 m = q
      unfold sgn
      by_cases h3 : rk m k < rk m l
      · rw [if_pos h3, if_pos (by omega)]
      · by_cases h4 : rk m l < rk m k
        · rw [if_neg h3, if_pos h4, if_neg (by omega), if_pos (by omega)]
        · rw [if_neg h3, if_neg h4, if_neg (by omega), if_neg (by omega)]
    · have : b.toNat * many8 m + many8 m ≤ a.toNat * many8 m := by rw [← Nat.succ_mul]; exact Nat.mul_le_mul_right _ (by omega)
      generalize a.toNat * many8 m = p at *
      generalize b.toNat * many8 m = q at *
      rw [if_neg (by omega), if_pos hab]; unfold sgn; rw [if_neg (by omega), if_pos (by omega)]
theorem lexCmp_zero : ∀ (k l : List (BitVec 8)), lexCmp k l = 0 ↔ k = l
  | [], [] => by simp [lexCmp]
  | [], _ :: _ => by simp [lexCmp]
  | _ :: _, [] => by simp [lexCmp]
  | a :: k, b :: l => by
    have ih := lexCmp_zero k l
    rw [lexCmp]
    rcases Nat.lt_trichotomy a.toNat b.toNat with hab | hab | hab
    · rw [if_pos hab]; simp; intro h; rw [h] at hab; omega
    · rw [if_neg (by omega), if_neg (by omega), ih]
      have : a = b := BitVec.eq_of_toNat_eq hab
      simp [this]
    · rw [if_neg (by omega), if_pos hab]; simp; intro h; rw [h] at hab; omega
theorem sgn_zero (a b : Nat) : sgn a b = 0 ↔ a = b := by unfold sgn; split <;> (try split) <;> omega
theorem sgn_neg (a b : Nat) : sgn a b < 0 ↔ a < b := by unfold sgn; split <;> (try split) <;> omega
theorem sgn_pos (a b : Nat) : 0 < sgn a b ↔ b < a := by unfold sgn; split <;> (try split) <;> omega
theorem sgn_le (a b : Nat) : sgn a b ≤ 0 ↔ a ≤ b := by unfold sgn; split <;> (try split) <;> omega
theorem sgn_ge (a b : Nat) : 0 ≤ sgn a b ↔ b ≤ a := by unfold sgn; split <;> (try split) <;> omega

/-! ### bytes in a row of m, zero behind the n-th -/
def trunc {m : Nat} (b : Vector (BitVec 8) m) (n : Nat) : Vector (BitVec 8) m := Vector.ofFn fun i => if i.1 < n then b[i.1] else 0#8
theorem trunc_get {m : Nat} (b : Vector (BitVec 8) m) (n i : Nat) (h : i < m) : (trunc b n)[i] = if i < n then b[i] else 0#8 := by unfold trunc; simp
theorem trunc_iff {m : Nat} (b : Vector (BitVec 8) m) (n : Nat) : trunc b n = b ↔ ∀ i (h : i < m), n ≤ i → b[i] = 0#8 := by
  constructor
  · intro h i hi hn
    have := trunc_get b n i hi
    rw [h, if_neg (by omega)] at this
    exact this
  · intro h
    apply Vector.ext
    intro i hi
    rw [trunc_get]
    split
    · rfl
    · rw [h i hi (by omega)]
def padded (m : Nat) (l : List (BitVec 8)) : Vector (BitVec 8) m := Vector.ofFn fun i => l.getD i.1 0#8
theorem padded_get (m : Nat) (l : List (BitVec 8)) (i : Nat) (h : i < m) : (padded m l)[i] = l.getD i 0#8 := by unfold padded; simp
def cut {m : Nat} (b : Vector (BitVec 8) m) (n : Nat) : List (BitVec 8) := b.toList.take n
theorem cut_length {m : Nat} (b : Vector (BitVec 8) m) (n : Nat) (h : n ≤ m) : (cut b n).length = n := by unfold cut; simp; omega
theorem cut_get {m : Nat} (b : Vector (BitVec 8) m) (n i : Nat) (h : i < m) (h2 : i < n) : (cut b n)[i]? = some b[i] := by
  unfold cut
  rw [List.getElem?_take, if_pos h2]
  simp [h]
theorem padded_cut {m : Nat} (b : Vector (BitVec 8) m) (n : Nat) (h : trunc b n = b) : padded m (cut b n) = b := by
  apply Vector.ext
  intro i hi
  rw [padded_get, List.getD_eq_getElem?_getD]
  by_cases hn : i < n
  · rw [cut_get b n i hi hn]; rfl
  · rw [List.getElem?_eq_none (by unfold cut; simp; omega), (trunc_iff b n).1 h i hi (by omega)]; rfl
theorem cut_padded (m : Nat) (l : List (BitVec 8)) (h : l.length ≤ m) : cut (padded m l) l.length = l := by
  apply List.ext_getElem?
  intro i
  by_cases hi : i < l.length
  · rw [cut_get _ _ i (by omega) hi, padded_get, List.getD_eq_getElem?_getD]; simp [hi]
  · rw [List.getElem?_eq_none (by unfold cut; simp; omega), List.getElem?_eq_none (by omega)]
theorem trunc_padded (m : Nat) (l : List (BitVec 8)) : trunc (padded m l) l.length = padded m l := by
  rw [trunc_iff]
  intro i hi hn
  rw [padded_get, List.getD_eq_getElem?_getD, List.getElem?_eq_none hn]; rfl

theorem over_zero_cut {m : Nat} (b : Vector (BitVec 8) m) (n : Nat) : over (Vector.replicate m 0#8) (b.toList.take n) = trunc b n := by
  apply Vector.ext
  intro i hi
  rw [over_get, trunc_get, List.getElem?_take]
  by_cases hn : i < n
  · rw [if_pos hn, if_pos hn]; simp [hi]
  · rw [if_neg hn, if_neg hn]; simp
theorem over_zero {m : Nat} (xs : List (BitVec 8)) : over (Vector.replicate m 0#8) xs = padded m xs := by
  apply Vector.ext
  intro i hi
  rw [over_get, padded_get, List.getD_eq_getElem?_getD]; simp

/-! ### keys -/
@[irreducible] def Key.ok (k : Key) : Bool := decide (0 ≤ k.n) && decide (k.n ≤ 8) && decide (trunc k.b k.n.toNat = k.b)
theorem Key.ok_iff (k : Key) : k.ok = true ↔ 0 ≤ k.n ∧ k.n ≤ 8 ∧ trunc k.b k.n.toNat = k.b := by unfold Key.ok; simp [and_assoc]
theorem Key.ok_false (k : Key) : k.ok = false ↔ k.n < 0 ∨ 8 < k.n ∨ trunc k.b k.n.toNat ≠ k.b := by
  rw [← Bool.not_eq_true, Key.ok_iff]
  constructor
  · intro h
    by_cases h1 : k.n < 0
    · exact .inl h1
    · by_cases h2 : 8 < k.n
      · exact .inr (.inl h2)
      · exact .inr (.inr fun h3 => h ⟨by omega, by omega, h3⟩)
  · rintro (h | h | h) ⟨h1, h2, h3⟩
    · omega
    · omega
    · exact h h3
@[irreducible] def Key.txt (k : Key) : List (BitVec 8) := if k.ok then cut k.b k.n.toNat else []
theorem Key.txt_ok {k : Key} (h : k.ok = true) : k.txt = cut k.b k.n.toNat := by unfold Key.txt; rw [if_pos h]
theorem Key.txt_no {k : Key} (h : k.ok = false) : k.txt = [] := by unfold Key.txt; rw [if_neg (by rw [h]; simp)]
theorem Key.txt_length (k : Key) : k.txt.length ≤ 8 := by
  cases h : k.ok
  · rw [Key.txt_no h]; simp
  · rw [Key.txt_ok h]; unfold cut; simp; omega
theorem Key.txt_n {k : Key} (h : k.ok = true) : (k.txt.length : Int) = k.n := by
  obtain ⟨h1, h2, h3⟩ := (Key.ok_iff k).1 h
  rw [Key.txt_ok h, cut_length _ _ (by omega)]; omega
/-- the key of a text -/
def mkKey (l : List (BitVec 8)) : Key := ⟨l.length, padded 8 l⟩
theorem mkKey_ok (l : List (BitVec 8)) (h : l.length ≤ 8) : (mkKey l).ok = true := by
  rw [Key.ok_iff]
  exact ⟨by simp [mkKey], by simp [mkKey]; omega, by simpa [mkKey] using trunc_padded 8 l⟩
theorem mkKey_txt (l : List (BitVec 8)) (h : l.length ≤ 8) : (mkKey l).txt = l := by
  rw [Key.txt_ok (mkKey_ok l h)]
  simpa [mkKey] using cut_padded 8 l h
theorem Key.mk_txt {k : Key} (h : k.ok = true) : mkKey k.txt = k := by
  have hn := Key.txt_n h
  obtain ⟨h1, h2, h3⟩ := (Key.ok_iff k).1 h
  unfold mkKey
  rw [hn, Key.txt_ok h, padded_cut k.b _ h3]
theorem Key.txt_inj {a b : Key} (ha : a.ok = true) (hb : b.ok = true) (h : a.txt = b.txt) : a = b := by rw [← Key.mk_txt ha, h, Key.mk_txt hb]
def Key.rank (k : Key) : Nat := rk 8 k.txt
/-- how two keys' texts are ordered -/
def keyCmp (a b : Key) : Int := lexCmp a.txt b.txt
theorem keyCmp_rank (a b : Key) : keyCmp a b = sgn a.rank b.rank := lexCmp_rk 8 _ _ a.txt_length b.txt_length
theorem rank_inj {a b : Key} (ha : a.ok = true) (hb : b.ok = true) : a.rank = b.rank ↔ a = b := by
  constructor
  · intro h
    have h1 : keyCmp a b = 0 := by rw [keyCmp_rank, h]; simp [sgn]
    exact Key.txt_inj ha hb ((lexCmp_zero _ _).1 h1)
  · rintro rfl; rfl

/-- the document's way to compare: at place i, if it ends there -/
def cmpAt (a b : Key) (i : Nat) : Option Int :=
  if a.n ≤ i ∧ b.n ≤ i then some 0 else if a.n ≤ i then some (-1) else if b.n ≤ i then some 1
  else if (a.b.toList.getD i 0).toNat < (b.b.toList.getD i 0).toNat then some (-1) else if (b.b.toList.getD i 0).toNat < (a.b.toList.getD i 0).toNat then some 1 else none
def cmpFrom (a b : Key) : Nat → Nat → Int
  | 0, _ => 0
  | f + 1, i => (cmpAt a b i).getD (cmpFrom a b f (i + 1))
@[irreducible] def refCmp (a b : Key) : Int := cmpFrom a b 8 0
theorem refCmp_def (a b : Key) : refCmp a b = cmpFrom a b (8 - 0) 0 := by unfold refCmp; rfl
theorem cmpFrom_ends {a b : Key} {i : Nat} {c : Int} (hi : i < 8) (h : cmpAt a b i = some c) : cmpFrom a b (8 - i) i = c := by
  rw [show 8 - i = (8 - (i + 1)) + 1 from by omega, cmpFrom, h]; rfl
theorem cmpFrom_on {a b : Key} {i : Nat} (hi : i < 8) (h : cmpAt a b i = none) : cmpFrom a b (8 - i) i = cmpFrom a b (8 - (i + 1)) (i + 1) := by
  rw [show 8 - i = (8 - (i + 1)) + 1 from by omega, cmpFrom, h]; rfl
theorem cmpFrom_lex {a b : Key} (ha : a.ok = true) (hb : b.ok = true) : ∀ (f i : Nat), f + i = 8 → cmpFrom a b f i = lexCmp (a.txt.drop i) (b.txt.drop i) := by
  have la := Key.txt_length a
  have lb := Key.txt_length b
  have na := Key.txt_n ha
  have nb := Key.txt_n hb
  intro f
  induction f with
  | zero =>
    intro i h
    obtain rfl : i = 8 := by omega
    rw [List.drop_eq_nil_of_le la, List.drop_eq_nil_of_le lb, lexCmp_nn]; rfl
  | succ f ih =>
    intro i h
    rw [cmpFrom, cmpAt]
    by_cases h1 : a.n ≤ i
    · rw [List.drop_eq_nil_of_le (by omega : a.txt.length ≤ i)]
      by_cases h2 : b.n ≤ i
      · rw [if_pos ⟨h1, h2⟩, List.drop_eq_nil_of_le (by omega : b.txt.length ≤ i), lexCmp_nn]; rfl
      · rw [if_neg (by omega), if_pos h1, List.drop_eq_getElem_cons (by omega : i < b.txt.length), lexCmp_nc]; rfl
    · rw [List.drop_eq_getElem_cons (by omega : i < a.txt.length)]
      by_cases h2 : b.n ≤ i
      · rw [if_neg (by omega), if_neg h1, if_pos h2, List.drop_eq_nil_of_le (by omega : b.txt.length ≤ i), lexCmp_cn]; rfl
      · rw [if_neg (by omega), if_neg h1, if_neg h2, List.drop_eq_getElem_cons (by omega : i < b.txt.length), lexCmp]
        have ga : a.b.toList.getD i 0 = a.txt[i]'(by omega) := by
          have h5 : a.txt[i]? = some (a.b[i]'(by omega)) := by rw [Key.txt_ok ha]; exact cut_get _ _ _ _ (by omega)
          rw [List.getElem?_eq_getElem (by omega)] at h5
          injection h5 with h5
          rw [h5]; simp [List.getD_eq_getElem?_getD, (by omega : i < 8)]
        have gb : b.b.toList.getD i 0 = b.txt[i]'(by omega) := by
          have h5 : b.txt[i]? = some (b.b[i]'(by omega)) := by rw [Key.txt_ok hb]; exact cut_get _ _ _ _ (by omega)
          rw [List.getElem?_eq_getElem (by omega)] at h5
          injection h5 with h5
          rw [h5]; simp [List.getD_eq_getElem?_getD, (by omega : i < 8)]
        rw [ga, gb, ← ih (i + 1) (by omega)]
        split
        · rfl
        · split <;> rfl
theorem refCmp_key {a b : Key} (ha : a.ok = true) (hb : b.ok = true) : refCmp a b = keyCmp a b := by
  rw [refCmp_def, cmpFrom_lex ha hb 8 0 rfl]; rfl
theorem refCmp_rank {a b : Key} (ha : a.ok = true) (hb : b.ok = true) : refCmp a b = sgn a.rank b.rank := by rw [refCmp_key ha hb, keyCmp_rank]

/-! ### values -/
@[irreducible] def Vl.ok (k : Vl) : Bool := decide (0 ≤ k.n) && decide (k.n ≤ 16) && decide (trunc k.b k.n.toNat = k.b)
theorem Vl.ok_iff (k : Vl) : k.ok = true ↔ 0 ≤ k.n ∧ k.n ≤ 16 ∧ trunc k.b k.n.toNat = k.b := by unfold Vl.ok; simp [and_assoc]
def mkVl (l : List (BitVec 8)) : Vl := ⟨l.length, padded 16 l⟩
theorem mkVl_ok (l : List (BitVec 8)) (h : l.length ≤ 16) : (mkVl l).ok = true := by
  rw [Vl.ok_iff]
  exact ⟨by simp [mkVl], by simp [mkVl]; omega, by simpa [mkVl] using trunc_padded 16 l⟩
theorem Vl.zero_ok : Vl.zero.ok = true := by
  rw [Vl.ok_iff]
  refine ⟨by simp [Vl.zero], by simp [Vl.zero], ?_⟩
  rw [trunc_iff]
  intro i hi _
  simp [Vl.zero]
end Go.Proofs.Ytkpjkfjlpiidbaa

namespace Go.Proofs.Ytkpjkfjlpiidbaa
open Go Go.RowKit
set_option linter.unusedVariables false
set_option linter.unusedSimpArgs false
set_option maxRecDepth 100000

/-- the first place of a number, from place i on; -1 -/
def idxFrom (x : Int) : Nat → List Int → Int
  | _, [] => -1
  | i, y :: l => if y = x then (i : Int) else idxFrom x (i + 1) l
def idxOf (l : List Int) (x : Int) : Int := idxFrom x 0 l
theorem idxFrom_nil (x : Int) (i : Nat) : idxFrom x i [] = -1 := rfl
theorem idxFrom_hit (l : List Int) (x : Int) (i : Nat) (h : i < l.length) (e : l[i] = x) : idxFrom x i (l.drop i) = i := by
  rw [List.drop_eq_getElem_cons h, idxFrom, if_pos e]
theorem idxFrom_miss (l : List Int) (x : Int) (i : Nat) (h : i < l.length) (e : l[i] ≠ x) : idxFrom x i (l.drop i) = idxFrom x (i + 1) (l.drop (i + 1)) := by
  rw [List.drop_eq_getElem_cons h, idxFrom, if_neg e]
theorem idxFrom_end (l : List Int) (x : Int) (i : Nat) (h : l.length ≤ i) : idxFrom x i (l.drop i) = -1 := by
  rw [List.drop_eq_nil_of_le h]; rfl
/-- each number from place i on is a block's and stands first there -/
def kidsFrom (all : List Int) : Nat → List Int → Bool
  | _, [] => true
  | i, y :: l => decide (1 ≤ y) && decide (y < 256) && decide (idxOf all y = (i : Int)) && kidsFrom all (i + 1) l
/-- keys that are right and rise, each against the one ahead -/
def risesBy (cmp : Key → Key → Int) : Option Key → List Key → Bool
  | _, [] => true
  | p, k :: l => k.ok && (match p with | none => true | some q => decide (cmp q k < 0)) && risesBy cmp (some k) l
def fanOkBy (cmp : Key → Key → Int) (ks : List Int) (cs : List Key) : Bool :=
  decide (2 ≤ ks.length) && decide (ks.length ≤ 4) && decide (cs.length + 1 = ks.length) && kidsFrom ks 0 ks && risesBy cmp none cs
theorem risesBy_eq : ∀ (l : List Key) (p : Option Key), (∀ q, p = some q → q.ok = true) → risesBy refCmp p l = risesBy keyCmp p l
  | [], _, _ => rfl
  | k :: l, p, h => by
    simp only [risesBy]
    cases hk : k.ok
    · simp
    · rw [risesBy_eq l (some k) (fun q e => by injection e with e; rw [← e]; exact hk)]
      cases p with
      | none => rfl
      | some q =>
        have e := refCmp_key (h q rfl) hk
        simp only [e]
theorem fanOk_eq (ks : List Int) (cs : List Key) : fanOkBy refCmp ks cs = fanOkBy keyCmp ks cs := by
  unfold fanOkBy
  rw [risesBy_eq cs none (fun q e => by cases e)]
theorem kidsFrom_step (all l : List Int) (i : Nat) (h : i < l.length) : kidsFrom all i (l.drop i) = (decide (1 ≤ l[i]) && decide (l[i] < 256) && decide (idxOf all l[i] = (i : Int)) && kidsFrom all (i + 1) (l.drop (i + 1))) := by
  rw [List.drop_eq_getElem_cons h, kidsFrom]
theorem kidsFrom_end (all l : List Int) (i : Nat) (h : l.length ≤ i) : kidsFrom all i (l.drop i) = true := by
  rw [List.drop_eq_nil_of_le h]; rfl
def ahead (l : List Key) : Nat → Option Key
  | 0 => none
  | i + 1 => l[i]?
theorem risesBy_step0 (cmp : Key → Key → Int) (l : List Key) (h : 0 < l.length) : risesBy cmp (ahead l 0) (l.drop 0) = (l[0].ok && risesBy cmp (ahead l 1) (l.drop 1)) := by
  rw [List.drop_eq_getElem_cons h]
  simp [ahead, h, risesBy]
theorem risesBy_step (cmp : Key → Key → Int) (l : List Key) (i : Nat) (h : i + 1 < l.length) : risesBy cmp (ahead l (i + 1)) (l.drop (i + 1)) = (l[i + 1].ok && decide (cmp l[i] l[i + 1] < 0) && risesBy cmp (ahead l (i + 2)) (l.drop (i + 2))) := by
  rw [List.drop_eq_getElem_cons h]
  simp only [ahead]
  rw [List.getElem?_eq_getElem (show i < l.length by omega), List.getElem?_eq_getElem h]
  rfl
theorem risesBy_stepk (cmp : Key → Key → Int) (l : List Key) (k j : Nat) (hj : k = j + 1) (h : k < l.length) : risesBy cmp (ahead l k) (l.drop k) = (l[k].ok && decide (cmp (l[j]'(by omega)) l[k] < 0) && risesBy cmp (ahead l (k + 1)) (l.drop (k + 1))) := by
  subst hj
  exact risesBy_step cmp l j h
theorem risesBy_end (cmp : Key → Key → Int) (l : List Key) (p : Option Key) (i : Nat) (h : l.length ≤ i) : risesBy cmp p (l.drop i) = true := by
  rw [List.drop_eq_nil_of_le h]; rfl
/-- to which kid a key goes -/
def kidBy (cmp : Key → Key → Int) (k : Key) (l : List Key) : Nat := l.countP fun p => decide (cmp p k ≤ 0)
theorem kidBy_yes (cmp : Key → Key → Int) (k : Key) (l : List Key) (i : Nat) (h : i < l.length) (c : cmp l[i] k ≤ 0) : kidBy cmp k (l.take (i + 1)) = kidBy cmp k (l.take i) + 1 := by
  unfold kidBy
  rw [List.take_succ_eq_append_getElem h, List.countP_append]
  simp [c]
theorem kidBy_no (cmp : Key → Key → Int) (k : Key) (l : List Key) (i : Nat) (h : i < l.length) (c : ¬ cmp l[i] k ≤ 0) : kidBy cmp k (l.take (i + 1)) = kidBy cmp k (l.take i) := by
  unfold kidBy
  rw [List.take_succ_eq_append_getElem h, List.countP_append]
  simp [c]
theorem kidBy_le (cmp : Key → Key → Int) (k : Key) (l : List Key) : kidBy cmp k l ≤ l.length := List.countP_le_length
end Go.Proofs.Ytkpjkfjlpiidbaa

namespace Go.Proofs.Ytkpjkfjlpiidbaa
open Go Go.RowKit
set_option linter.unusedVariables false
set_option linter.unusedSimpArgs false
set_option maxRecDepth 100000


set_option maxHeartbeats 1000000 in
/-- the document's Check -/
theorem refkeycheck_any (k : Key) (w : World) : Calls Try.prog 61 #[.agg k.arr] w (Is w (.bool k.ok)) := by
  by_cases h0 : k.n < 0
  · have hok : k.ok = false := (Key.ok_false k).2 (.inl h0)
    go_enter Try.func61, Try.ntmps61
    go_wp2
    go_ret
    exact ⟨by simp [hok], (by repeat (first | exact Ext.refl _ | assumption | refine Ext.drew ?_ | refine Ext.drewN ?_ _ | refine Ext.alloc ?_ _ | refine Ext.trans ?_ (by assumption)))⟩
  have h0' : 0 ≤ k.n := by omega
  by_cases h8 : 8 < k.n
  · have hok : k.ok = false := (Key.ok_false k).2 (.inr (.inl h8))
    go_enter Try.func61, Try.ntmps61
    go_wp2
    go_ret
    exact ⟨by simp [hok], (by repeat (first | exact Ext.refl _ | assumption | refine Ext.drew ?_ | refine Ext.drewN ?_ _ | refine Ext.alloc ?_ _ | refine Ext.trans ?_ (by assumption)))⟩
  have h8' : k.n ≤ 8 := by omega
  obtain ⟨n, hn⟩ : ∃ n : Nat, k.n = (n : Int) := ⟨k.n.toNat, by omega⟩
  have H0 := Lib.hid hn
  have hn8 : n ≤ 8 := by omega
  clear hn
  go_enter Try.func61, Try.ntmps61
  go_wp2
  go_loop [3] (fun x => ∃ i : Nat, n ≤ i ∧ i ≤ 8 ∧ x = .int .i64 i ∧ ∀ j (h : j < 8), n ≤ j → j < i → k.b[j] = 0#8) (fun x => 8 - (intOf x).toNat)
  case atStart => exact ⟨n, by omega, by omega, by rw [H0.out], fun j _ h1 h2 => absurd h1 (by omega)⟩
  case round =>
    obtain ⟨i, h1, h2, rfl, hz⟩ := hrel
    have HZ := Lib.hid hz
    clear hz
    have H0' := H0.out
    have hni : k.n ≤ i := by omega
    clear H0'
    by_cases hlt : i < 8
    · by_cases hb : k.b[i] = 0#8
      · go_wp2
        go_round
        case rel =>
          refine ⟨i + 1, by omega, by omega, by go_num, fun j hj h3 h4 => ?_⟩
          by_cases h5 : j = i
          · subst h5; exact hb
          · exact HZ.out j hj h3 (by omega)
        case measure => simp [intOf]; omega
      · have hok : k.ok = false := (Key.ok_false k).2 (.inr (.inr fun h => hb ((trunc_iff _ _).1 h i hlt (by omega))))
        go_wp2
        go_ret
        exact ⟨by simp [hok], (by repeat (first | exact Ext.refl _ | assumption | refine Ext.drew ?_ | refine Ext.drewN ?_ _ | refine Ext.alloc ?_ _ | refine Ext.trans ?_ (by assumption)))⟩
    · obtain rfl : i = 8 := by omega
      have hok : k.ok = true := (Key.ok_iff k).2 ⟨h0', h8', (trunc_iff _ _).2 fun j hj h3 => HZ.out j hj (by rw [H0.out] at h3; omega) hj⟩
      go_wp2
      go_ret
      exact ⟨by simp [hok], (by repeat (first | exact Ext.refl _ | assumption | refine Ext.drew ?_ | refine Ext.drewN ?_ _ | refine Ext.alloc ?_ _ | refine Ext.trans ?_ (by assumption)))⟩

set_option maxHeartbeats 4000000 in
/-- the document's Compare -/
theorem refkeycmp_any (a b : Key) (w : World) : Calls Try.prog 55 #[.agg a.arr, .agg b.arr] w (Is w (.int .i64 (refCmp a b))) := by
  have H := Lib.hid (refCmp_def a b)
  go_enter Try.func55, Try.ntmps55
  go_wp2
  go_loopw [5] (fun x wr => ∃ i m : Nat, i ≤ 8 ∧ x = .int .i64 i ∧ refCmp a b = cmpFrom a b (8 - i) i ∧ wr = ((w.alloc (.cells a.arr 40)).alloc (.cells b.arr 40)).drewN m) (fun x _ => 8 - (intOf x).toNat)
  case atStart => exact ⟨0, 0, by omega, rfl, H.out, rfl⟩
  case round =>
    obtain ⟨i, m, hi, rfl, he, rfl⟩ := hrel
    have HE := Lib.hid he
    clear he
    by_cases hlt : i < 8
    · by_cases h1 : a.n ≤ i
      · by_cases h2 : b.n ≤ i
        · have HC := Lib.hid (HE.out.trans (cmpFrom_ends (c := 0) hlt (by unfold cmpAt; rw [if_pos ⟨h1, h2⟩])))
          go_wp2
          go_ret
          exact ⟨by simp [HC.out], (by repeat (first | exact Ext.refl _ | assumption | refine Ext.drew ?_ | refine Ext.drewN ?_ _ | refine Ext.alloc ?_ _ | refine Ext.trans ?_ (by assumption)))⟩
        · have HC := Lib.hid (HE.out.trans (cmpFrom_ends (c := -1) hlt (by unfold cmpAt; rw [if_neg (by omega), if_pos h1])))
          have h2' : (i : Int) < b.n := by omega
          go_wp2
          go_ret
          exact ⟨by simp [HC.out], (by repeat (first | exact Ext.refl _ | assumption | refine Ext.drew ?_ | refine Ext.drewN ?_ _ | refine Ext.alloc ?_ _ | refine Ext.trans ?_ (by assumption)))⟩
      · have h1' : (i : Int) < a.n := by omega
        by_cases h2 : b.n ≤ i
        · have HC := Lib.hid (HE.out.trans (cmpFrom_ends (c := 1) hlt (by unfold cmpAt; rw [if_neg (by omega), if_neg h1, if_pos h2])))
          go_wp2
          go_ret
          exact ⟨by simp [HC.out], (by repeat (first | exact Ext.refl _ | assumption | refine Ext.drew ?_ | refine Ext.drewN ?_ _ | refine Ext.alloc ?_ _ | refine Ext.trans ?_ (by assumption)))⟩
        · have h2' : (i : Int) < b.n := by omega
          have hlt' : (i : Int) < 8 := by omega
          have h0' : (0 : Int) ≤ (i : Int) := by omega
          have ga : a.b.toList.getD i 0 = a.b[i] := by simp [List.getD_eq_getElem?_getD, hlt]
          have gb : b.b.toList.getD i 0 = b.b[i] := by simp [List.getD_eq_getElem?_getD, hlt]
          by_cases h3 : B8 a.b[i] < B8 b.b[i]
          · have HC := Lib.hid (HE.out.trans (cmpFrom_ends (c := -1) hlt (by unfold cmpAt; rw [if_neg (by omega), if_neg h1, if_neg h2, ga, gb, if_pos (by rwa [B8_ltB] at h3)])))
            clear ga gb
            go_wp2
            go_quiet (fail)
            go_wp2
            go_ret
            exact ⟨by simp [HC.out], (by repeat (first | exact Ext.refl _ | assumption | refine Ext.drew ?_ | refine Ext.drewN ?_ _ | refine Ext.alloc ?_ _ | refine Ext.trans ?_ (by assumption)))⟩
          · by_cases h4 : B8 b.b[i] < B8 a.b[i]
            · have HC := Lib.hid (HE.out.trans (cmpFrom_ends (c := 1) hlt (by unfold cmpAt; rw [if_neg (by omega), if_neg h1, if_neg h2, ga, gb, if_neg (by rwa [B8_ltB] at h3), if_pos (by rwa [B8_ltB] at h4)])))
              clear ga gb
              go_wp2
              go_quiet (fail)
              go_wp2
              go_quiet (fail)
              go_wp2
              go_ret
              exact ⟨by simp [HC.out], (by repeat (first | exact Ext.refl _ | assumption | refine Ext.drew ?_ | refine Ext.drewN ?_ _ | refine Ext.alloc ?_ _ | refine Ext.trans ?_ (by assumption)))⟩
            · have HC := Lib.hid (HE.out.trans (cmpFrom_on hlt (by unfold cmpAt; rw [if_neg (by omega), if_neg h1, if_neg h2, ga, gb, if_neg (by rwa [B8_ltB] at h3), if_neg (by rwa [B8_ltB] at h4)])))
              clear ga gb
              go_wp2
              go_quiet (fail)
              go_wp2
              go_quiet (fail)
              go_wp2
              go_round
              case rel => exact ⟨i + 1, _, by omega, by go_num, HC.out, rfl⟩
              case measure => simp [intOf]; omega
    · obtain rfl : i = 8 := by omega
      have HC := Lib.hid (HE.out.trans (show cmpFrom a b (8 - 8) 8 = 0 from rfl))
      go_wp2
      go_ret
      exact ⟨by simp [HC.out], (by repeat (first | exact Ext.refl _ | assumption | refine Ext.drew ?_ | refine Ext.drewN ?_ _ | refine Ext.alloc ?_ _ | refine Ext.trans ?_ (by assumption)))⟩

end Go.Proofs.Ytkpjkfjlpiidbaa

namespace Go.Proofs.Ytkpjkfjlpiidbaa
open Go Go.RowKit
set_option linter.unusedVariables false
set_option linter.unusedSimpArgs false
set_option maxRecDepth 100000

/-! ### the program's Check, Text, Compare -/
set_option maxRecDepth 100000 in
set_option maxHeartbeats 4000000 in
/-- the program's Check -/
theorem keycheck_any (k : Key) (w : World) : Calls Try.prog 75 #[.agg k.arr] w (Is w (.bool k.ok)) := by
  by_cases h0 : k.n < 0
  · have hok : k.ok = false := (Key.ok_false k).2 (.inl h0)
    go_enter Try.func75, Try.ntmps75
    go_wp2
    go_ret
    exact ⟨by simp [hok], (by repeat (first | exact Ext.refl _ | assumption | refine Ext.drew ?_ | refine Ext.drewN ?_ _ | refine Ext.alloc ?_ _ | refine Ext.trans ?_ (by assumption)))⟩
  have h0' : 0 ≤ k.n := by omega
  by_cases h8 : 8 < k.n
  · have hok : k.ok = false := (Key.ok_false k).2 (.inr (.inl h8))
    go_enter Try.func75, Try.ntmps75
    go_wp2
    go_ret
    exact ⟨by simp [hok], (by repeat (first | exact Ext.refl _ | assumption | refine Ext.drew ?_ | refine Ext.drewN ?_ _ | refine Ext.alloc ?_ _ | refine Ext.trans ?_ (by assumption)))⟩
  have h8' : k.n ≤ 8 := by omega
  obtain ⟨kn, kb⟩ := k
  obtain ⟨n, rfl⟩ : ∃ n : Nat, kn = (n : Int) := ⟨kn.toNat, by simp at h0'; omega⟩
  have hn8 : n ≤ 8 := by simp at h8'; omega
  have hn8' : (n : Int) ≤ 8 := by omega
  go_enter Try.func75, Try.ntmps75
  go_wp2
  have hmin : min 8 n = n := by omega
  go_region_held3 (fun W => W.cell? ⟨w.heap.size, 0, none⟩ = some (.int .i64 (n : Int))) ((simp [go_sem])) (fail)
  go_wp2
  go_ret
  have hk : (Key.mk (n : Int) kb).ok = decide (trunc kb n = kb) := by rw [Bool.eq_iff_iff, Key.ok_iff]; simp [hn8']
  exact ⟨by rw [hk, over_zero_cut]; rfl, (by repeat (first | exact Ext.refl _ | assumption | refine Ext.drew ?_ | refine Ext.drewN ?_ _ | refine Ext.alloc ?_ _ | refine Ext.trans ?_ (by assumption)))⟩

set_option maxRecDepth 100000 in
set_option maxHeartbeats 4000000 in
/-- the program's Text -/
theorem keytext_any (k : Key) (w : World) : Calls Try.prog 78 #[.agg k.arr] w (Is w (.string (bytesOf k.txt))) := by
  cases hok : k.ok
  · have htx := Key.txt_no hok
    go_enter Try.func78, Try.ntmps78
    go_wp2_with fail
    refine (keycheck_any _ _).mono ?_
    rintro e w1 ⟨rfl, he1⟩
    go_wp2
    go_ret
    exact ⟨by rw [htx, bytesOf_nil]; rfl, (by repeat (first | exact Ext.refl _ | assumption | refine Ext.drew ?_ | refine Ext.drewN ?_ _ | refine Ext.alloc ?_ _ | refine Ext.trans ?_ (by assumption)))⟩
  · have htx := Key.txt_ok hok
    obtain ⟨h0, h8, -⟩ := (Key.ok_iff k).1 hok
    obtain ⟨kn, kb⟩ := k
    obtain ⟨n, rfl⟩ : ∃ n : Nat, kn = (n : Int) := ⟨kn.toNat, by simp at h0; omega⟩
    have hn8 : n ≤ 8 := by simp at h8; omega
    have hn8' : (n : Int) ≤ 8 := by omega
    have HT := Lib.hid htx
    clear htx
    go_enter Try.func78, Try.ntmps78
    go_wp2_with fail
    refine (keycheck_any _ _).mono ?_
    rintro e w1 ⟨rfl, he1⟩
    have hr : row? w1 w.heap.size 0 9 = some (Key.mk (n : Int) kb).arr := he1.row (by simp [go_sem])
    have hc := row_cell hr (j := 0) (by omega) (Key.arr_n _)
    have hs := sl_of_bArr (g := w.heap.size) (o := 1) (w := w1) (b := kb) (by rw [← Nat.zero_add 1, row_sub hr 1 8 (by omega)]; exact Key.row_b _) n 8 hn8 hn8 (by unfold maxLen; omega)
    have hcv := run_str_sl Try.underlying74 Try.underlying5 Try.underlying9 hs
    clear hs
    simp only [Nat.zero_add] at hc
    go_wp2
    go_ret
    exact ⟨by rw [HT.out]; rfl, (by repeat (first | exact Ext.refl _ | assumption | refine Ext.drew ?_ | refine Ext.drewN ?_ _ | refine Ext.alloc ?_ _ | refine Ext.trans ?_ (by assumption)))⟩


set_option maxRecDepth 100000 in
set_option maxHeartbeats 1000000 in
theorem cmpstring_any (a b : ByteArray) (w : World) : Calls Try.prog 81 #[.string a, .string b] w fun e w' => e = .returned (.int .i64 (Lib.compareBytes a.data.toList b.data.toList)) ∧ w' = w := by
  go_enter Try.func81, Try.ntmps81
  go_wp2
  rw [run_callFunc_extern Try.func82 (by kernel_rfl) (by kernel_rfl) (by kernel_rfl) (e := Extern.BytealgCompare.compare) (by kernel_rfl), Lib.run_compareString]
  simp only [Result.andThen]
  rw [Oper.upon_value]
  go_wp2
  go_ret
  exact ⟨rfl, rfl⟩
theorem strcmp_any (k m : List (BitVec 8)) (w : World) : Calls Try.prog 77 #[.string (bytesOf k), .string (bytesOf m)] w fun e w' => e = .returned (.int .i64 (lexCmp k m)) ∧ w' = w := by
  have H := Lib.hid (compareBytes_eq k m)
  go_enter Try.func77, Try.ntmps77
  go_wp2_with (go_at_call 81; refine (cmpstring_any _ _ _).mono ?_; rintro e w1 ⟨rfl, rfl⟩)
  go_ret
  exact ⟨by rw [H.out]; rfl, rfl⟩

set_option maxRecDepth 100000 in
set_option maxHeartbeats 4000000 in
/-- the program's Compare -/
theorem keycmp_any (a b : Key) (w : World) : Calls Try.prog 72 #[.agg a.arr, .agg b.arr] w (Is w (.int .i64 (keyCmp a b))) := by
  go_enter Try.func72, Try.ntmps72
  go_wp2
  have hA : row? ((w.alloc (.cells a.arr 40)).alloc (.cells b.arr 40)) w.heap.size 0 9 = some a.arr := by simp [go_sem]
  have hB : row? ((w.alloc (.cells a.arr 40)).alloc (.cells b.arr 40)) (w.heap.size + 1) 0 9 = some b.arr := by simp [go_sem]
  go_region_held3 (fun W => row? W w.heap.size 0 9 = some a.arr ∧ row? W (w.heap.size + 1) 0 9 = some b.arr)
    (exact ⟨Ext.row (by repeat (first | exact Ext.refl _ | assumption | refine Ext.drew ?_ | refine Ext.drewN ?_ _ | refine Ext.alloc ?_ _ | refine Ext.trans ?_ (by assumption))) hA, Ext.row (by repeat (first | exact Ext.refl _ | assumption | refine Ext.drew ?_ | refine Ext.drewN ?_ _ | refine Ext.alloc ?_ _ | refine Ext.trans ?_ (by assumption))) hB⟩)
    ((first | (go_at_call 78; refine (keytext_any _ _).mono ?_; rintro e w1 ⟨rfl, he1⟩) | (go_at_call 77; refine (strcmp_any _ _ _).mono ?_; rintro e w1 ⟨rfl, rfl⟩)))
  all_goals go_wp2
  all_goals go_ret
  all_goals exact ⟨rfl, (by repeat (first | exact Ext.refl _ | assumption | refine Ext.drew ?_ | refine Ext.drewN ?_ _ | refine Ext.alloc ?_ _ | refine Ext.trans ?_ (by assumption)))⟩
end Go.Proofs.Ytkpjkfjlpiidbaa

namespace Go.Proofs.Ytkpjkfjlpiidbaa
open Go Go.RowKit
set_option linter.unusedVariables false
set_option linter.unusedSimpArgs false
set_option maxRecDepth 100000

/-- the number that bytes are -/
def leNum : List (BitVec 8) → BitVec 64
  | [] => 0#64
  | b :: bs => (leNum bs <<< 8) ||| b.setWidth 64
/-- a number's bytes -/
def leBytes (n : BitVec 64) : Nat → List (BitVec 8)
  | 0 => []
  | w + 1 => n.setWidth 8 :: leBytes (n >>> 8) w
theorem leBytes_length (n : BitVec 64) (w : Nat) : (leBytes n w).length = w := by
  induction w generalizing n with
  | zero => rfl
  | succ w ih => simp [leBytes, ih]
theorem leBytes_get (n : BitVec 64) (w i : Nat) (h : i < w) : (leBytes n w)[i]? = some ((n >>> (8 * i)).setWidth 8) := by
  induction w generalizing n i with
  | zero => omega
  | succ w ih =>
    cases i with
    | zero => simp [leBytes]
    | succ i =>
      rw [leBytes, List.getElem?_cons_succ, ih _ _ (by omega), ← BitVec.shiftRight_add, show 8 + 8 * i = 8 * (i + 1) from by omega]
theorem leBytes_snoc (n : BitVec 64) (w : Nat) : leBytes n (w + 1) = leBytes n w ++ [(n >>> (8 * w)).setWidth 8] := by
  apply List.ext_getElem?
  intro i
  rw [List.getElem?_append, leBytes_length]
  by_cases h : i < w
  · rw [if_pos h, leBytes_get _ _ _ h, leBytes_get _ _ _ (by omega)]
  · rw [if_neg h]
    by_cases h2 : i = w
    · subst h2; rw [leBytes_get _ _ _ (by omega)]; simp
    · rw [List.getElem?_eq_none (by rw [leBytes_length]; omega), List.getElem?_eq_none (by simp; omega)]
theorem leNum_bit (bs : List (BitVec 8)) (b : BitVec 8) (i : Nat) (h : i < 64) : (leNum (b :: bs)).getLsbD i = if i < 8 then b.getLsbD i else (leNum bs).getLsbD (i - 8) := by
  rw [leNum, BitVec.getLsbD_or, BitVec.getLsbD_shiftLeft, BitVec.getLsbD_setWidth]
  by_cases h8 : i < 8
  · rw [if_pos h8]; simp [h8, h]
  · rw [if_neg h8, BitVec.getLsbD_of_ge b i (by omega)]; simp [h8, h]
theorem leNum_leBytes (n : BitVec 64) (w i : Nat) (h : i < 64) : (leNum (leBytes n w)).getLsbD i = (decide (i < 8 * w) && n.getLsbD i) := by
  induction w generalizing n i with
  | zero => simp [leBytes, leNum]
  | succ w ih =>
    rw [leBytes, leNum_bit _ _ _ h]
    by_cases h8 : i < 8
    · rw [if_pos h8]; simp [h8, show i < 8 * (w + 1) from by omega]
    · rw [if_neg h8, ih _ _ (by omega), BitVec.getLsbD_ushiftRight, show 8 + (i - 8) = i from by omega]
      congr 1
      rw [decide_eq_decide]; omega
theorem leNum_bytes (n : BitVec 64) : leNum (leBytes n 8) = n := by
  apply BitVec.eq_of_getLsbD_eq
  intro i hi
  rw [leNum_leBytes _ _ _ hi]
  simp [hi]
def numOf (v : Vl) : BitVec 64 := leNum (v.b.toList.take 8)
def fromN (n : BitVec 64) : Vl := mkVl (leBytes n 8)
def vplus (v : Vl) (by_ : BitVec 64) : Vl := fromN (numOf v + by_)
theorem fromN_ok (n : BitVec 64) : (fromN n).ok = true := mkVl_ok _ (by rw [leBytes_length]; omega)
theorem numOf_from (n : BitVec 64) : numOf (fromN n) = n := by
  unfold numOf fromN mkVl
  have h : (padded 16 (leBytes n 8)).toList.take 8 = leBytes n 8 := by
    have := cut_padded 16 (leBytes n 8) (by rw [leBytes_length]; omega)
    rw [leBytes_length] at this
    exact this
  rw [h, leNum_bytes]
theorem vplus_plus (v : Vl) (a b : BitVec 64) : vplus (vplus v a) b = vplus v (a + b) := by unfold vplus; rw [numOf_from, BitVec.add_assoc]
theorem vplus_from (a b : BitVec 64) : vplus (fromN a) b = fromN (a + b) := by unfold vplus; rw [numOf_from]
end Go.Proofs.Ytkpjkfjlpiidbaa

namespace Go.Proofs.Ytkpjkfjlpiidbaa
open Go Go.RowKit
set_option linter.unusedVariables false
set_option linter.unusedSimpArgs false
set_option maxRecDepth 100000

theorem wrap_u64' (n : Int) : IntKind.u64.wrap n = n % 18446744073709551616 := by simp [IntKind.wrap, IntKind.bits, IntKind.signed]
theorem D64_lt (x : BitVec 64) : D64 x < 18446744073709551616 := by rw [D64_def]; have := x.isLt; omega
theorem D64_shr8 (x : BitVec 64) : D64 x / (256 : Int) = D64 (x >>> 8) := by
  rw [D64_def, D64_def, BitVec.toNat_ushiftRight, Nat.shiftRight_eq_div_pow]; omega
theorem B8_of_D64 (x : BitVec 64) : IntKind.u8.wrap (D64 x) = B8 (x.setWidth 8) := by
  rw [IntKind.wrap_u8', D64_def, B8_def, BitVec.toNat_setWidth]; omega
theorem D64_and255 (x : BitVec 64) : bits .and .u64 (D64 x) 255 = D64 (x &&& 255#64) := by
  rw [D64_def, D64_def, BitVec.toNat_and]
  have h := u64_and_nat x.toNat 255 x.isLt (by omega)
  exact h
theorem D64_or (x y : BitVec 64) : bits .or .u64 (D64 x) (D64 y) = D64 (x ||| y) := by
  rw [D64_def, D64_def, D64_def, BitVec.toNat_or]
  exact u64_or_nat x.toNat y.toNat x.isLt y.isLt
theorem D64_of_B8 (x : BitVec 8) : IntKind.u64.wrap (B8 x) = D64 (x.setWidth 64) := by
  rw [wrap_u64', D64_def, B8_def, BitVec.toNat_setWidth]; have := x.isLt; omega
theorem D64_shl8 (x : BitVec 64) : IntKind.u64.wrap (D64 x * 256) = D64 (x <<< 8) := by
  rw [wrap_u64', D64_def, D64_def, BitVec.toNat_shiftLeft, Nat.shiftLeft_eq]; omega
theorem D64_add (x y : BitVec 64) : IntKind.u64.wrap (D64 x + D64 y) = D64 (x + y) := by
  rw [wrap_u64', D64_def, D64_def, D64_def, BitVec.toNat_add]; omega
attribute [go_sem] D64_shr8 B8_of_D64 D64_and255 D64_nonneg D64_lt D64_or D64_of_B8 D64_shl8 D64_add

theorem and255_byte (x : BitVec 64) : (x &&& 255#64).setWidth 8 = x.setWidth 8 := by
  apply BitVec.eq_of_getLsbD_eq
  intro i hi
  rw [BitVec.getLsbD_setWidth, BitVec.getLsbD_setWidth, BitVec.getLsbD_and]
  have : (255#64).getLsbD i = true := by
    have h : ∀ j, j < 8 → (255#64).getLsbD j = true := by decide
    exact h i hi
  rw [this]; simp
theorem and255_8 (x : BitVec 8) : x &&& 255#8 = x := by
  have : (255#8 : BitVec 8) = BitVec.allOnes 8 := rfl
  rw [this, BitVec.and_allOnes]
attribute [go_sem] and255_byte and255_8

set_option maxRecDepth 100000 in
set_option maxHeartbeats 2000000 in
/-- the document's Put -/
theorem refput_any (v : Value) (xs : List (BitVec 8)) (n : BitVec 64) (wd : Nat) (w : World) (h : Sl be 1 w v xs) (hx : xs.length ≤ 100000000000000) (h1 : 1 ≤ wd) (h8 : wd ≤ 8) :
    Calls Try.prog 73 #[v, .int .u64 (D64 n), .int .i64 (wd : Int)] w (Ret w fun u w' => Own w.heap.size 5 be 1 w' u (xs ++ leBytes n wd)) := by
  go_enter Try.func73, Try.ntmps73
  go_wp2_with (at_builtin; refine wpList_append_sl (by rfl) (.tmp 9) (.tmp 10) (by rfl) slT_bytes be_ok (by rfl) (by rfl) (Own.empty w.heap.size _ be 1 w (Nat.le_refl _)) (h.ext (by repeat (first | exact Ext.refl _ | assumption | refine Ext.drew ?_ | refine Ext.drewN ?_ _ | refine Ext.alloc ?_ _ | refine Ext.trans ?_ (by assumption)))) (by simp only [List.length_nil, maxLen]; omega) (by simp only [List.length_nil]; omega) (by simp) ?_; intro v1 W1 hown1 hg1 hat1; have he1 : Ext w W1 := ((Ext.refl w).alloc _).append hg1 (Own.empty w.heap.size _ be 1 w (Nat.le_refl _)) (Nat.le_refl _); simp only [List.nil_append] at hown1; clear hg1 hat1)
  go_loopw [1, 7, 8] (fun nn o i wr => ∃ k : Nat, k ≤ wd ∧ i = .int .i64 k ∧ nn = .int .u64 (D64 (n >>> (8 * k))) ∧ Own w.heap.size 5 be 1 wr o (xs ++ leBytes n k) ∧ Ext w wr) (fun _ _ i _ => wd - (intOf i).toNat)
  case atStart => exact ⟨0, by omega, rfl, rfl, by simpa [leBytes] using hown1, he1⟩
  case round =>
    obtain ⟨k, hk, rfl, rfl, hown, he⟩ := hrel
    have hl := leBytes_length n k
    have HL := Lib.hid hl
    clear hl
    by_cases hlt : k < wd
    · have HS := Lib.hid (leBytes_snoc n k)
      have HN := Lib.hid (show n >>> (8 * k) >>> 8 = n >>> (8 * (k + 1)) from by rw [← BitVec.shiftRight_add]; rfl)
      go_wp2_with (at_builtin; refine wpList_append_sl (by rfl) (.tmp 24) (.tmp 28) (by rfl) slT_bytes be_ok (by rfl) (by rfl) (hown.alloc _) (Sl.one be_ok wr 5 (0, 0) ((n >>> (8 * k)).setWidth 8)) (by simp only [List.length_append, HL.out, List.length_singleton, maxLen]; omega) (by simp only [List.length_append, HL.out, List.length_singleton]; omega) (by have := he.le; simp; omega) ?_; intro v2 W2 hown2 hg2 hat2; have he2 : Ext w W2 := (he.alloc _).append hg2 (hown.alloc _) (Nat.le_refl _); clear hg2 hat2)
      go_roundw
      case rel => exact ⟨k + 1, by omega, by go_num, by rw [HN.out], by rw [HS.out, ← List.append_assoc]; exact hown2, he2⟩
      case measure => simp [intOf]; omega
    · obtain rfl : k = wd := by omega
      go_wp2
      go_ret
      exact ⟨_, rfl, hown, he⟩

/-- so many bytes from a place on -/
def seg (xs : List (BitVec 8)) (at_ wd : Nat) : List (BitVec 8) := (xs.drop at_).take wd
theorem seg_step (xs : List (BitVec 8)) (at_ wd k : Nat) (h : at_ + wd ≤ xs.length) (hk : k < wd) : leNum ((seg xs at_ wd).drop k) = (leNum ((seg xs at_ wd).drop (k + 1)) <<< 8) ||| (xs[at_ + k]'(by omega)).setWidth 64 := by
  have hl : (seg xs at_ wd).length = wd := by unfold seg; simp; omega
  rw [List.drop_eq_getElem_cons (by omega), leNum]
  congr 2
  unfold seg; simp

set_option maxRecDepth 100000 in
set_option maxHeartbeats 4000000 in
/-- the document's Num -/
theorem refnum_any (v : Value) (xs : List (BitVec 8)) (at_ wd : Nat) (w : World) (h : Sl be 1 w v xs) (h1 : 1 ≤ wd) (h8 : wd ≤ 8) (ha : at_ + wd ≤ xs.length) :
    Calls Try.prog 79 #[v, .int .i64 (at_ : Int), .int .i64 (wd : Int)] w fun e w' => e = .returned (.tuple #[.int .u64 (D64 (leNum (seg xs at_ wd))), .bool true]) ∧ w' = w := by
  obtain ⟨A, cap, rfl, h0, hc, hA⟩ := h
  obtain ⟨b, off, rfl, hb, hr⟩ := hA (by omega)
  unfold maxLen at hc
  have hl : (seg xs at_ wd).length = wd := by unfold seg; simp; omega
  have i1 : ¬ (wd : Int) < 1 := by omega
  have i2 : ¬ 8 < (wd : Int) := by omega
  have i3 : ¬ (at_ : Int) < 0 := by omega
  have i4 : ¬ (xs.length : Int) - wd < at_ := by omega
  have HR := Lib.hid hr
  have HL := Lib.hid hl
  clear hr hA hl
  have HZ := Lib.hid (show (0 : Int) = D64 0#64 from D64_zero.symm)
  go_enter Try.func79, Try.ntmps79
  go_wp2
  go_loop [8, 9] (fun nn i => ∃ k : Nat, k ≤ wd ∧ i = .int .i64 ((k : Int) - 1) ∧ nn = .int .u64 (D64 (leNum ((seg xs at_ wd).drop k)))) (fun _ i => ((intOf i) + 1).toNat)
  case atStart => exact ⟨wd, by omega, rfl, by rw [List.drop_eq_nil_of_le (by rw [HL.out]; omega)]; simp only [leNum]; rw [D64_zero]⟩
  case round =>
    obtain ⟨k, hk, rfl, rfl⟩ := hrel
    by_cases hlt : 0 < k
    · obtain ⟨j, rfl⟩ : ∃ j, k = j + 1 := ⟨k - 1, by omega⟩
      have hc1 := SlAt.byte' HR.out (i := at_ + j) (by omega)
      have HS := Lib.hid (seg_step xs at_ wd j ha (by omega))
      have e1 : ((j + 1 : Nat) : Int) - 1 = (j : Int) := by omega
      rw [e1]
      have i5 : (0 : Int) ≤ (at_ : Int) + j := by omega
      have i6 : (at_ : Int) + j < xs.length := by omega
      have e2 : off + ((at_ : Int) + j).toNat = off + (at_ + j) := by omega
      have i7 : (0 : Int) ≤ (j : Int) := by omega
      clear e1
      go_wp2
      go_round
      case rel => exact ⟨j, by omega, by go_num, by rw [HS.out]⟩
      case measure => simp [intOf]
    · obtain rfl : k = 0 := by omega
      go_wp2
      exact bodyPost_ret (results_2 rfl res_tmp res_tmp) rfl ⟨rfl, rfl⟩
end Go.Proofs.Ytkpjkfjlpiidbaa

namespace Go.Proofs.Ytkpjkfjlpiidbaa
open Go Go.RowKit
set_option linter.unusedVariables false
set_option linter.unusedSimpArgs false
set_option maxRecDepth 100000

theorem over_take {m : Nat} (xs : List (BitVec 8)) (k : Nat) (hk : k < xs.length) : (over (Vector.replicate m 0#8) (xs.take k)).setIfInBounds k xs[k] = over (Vector.replicate m 0#8) (xs.take (k + 1)) := by
  apply Vector.ext
  intro i hi
  rw [over_get, Vector.getElem_setIfInBounds, over_get, List.getElem?_take, List.getElem?_take]
  by_cases h1 : k = i
  · subst h1; simp [hk]
  · by_cases h2 : i < k
    · simp [h1, h2, show i < k + 1 from by omega]
    · simp [h1, h2, show ¬ i < k + 1 from by omega]
theorem over_nil {m : Nat} (b : Vector (BitVec 8) m) : over b [] = b := by
  apply Vector.ext
  intro i hi
  rw [over_get]; simp
theorem bytes_at (xs : List (BitVec 8)) (k : Nat) (h : k < (bytesOf xs).size) : (((bytesOf xs)[k]'h).toNat : Int) = B8 (xs[k]'(by rw [bytesOf_size] at h; exact h)) := by
  have hk : k < xs.length := by rw [bytesOf_size] at h; exact h
  have h0 : (bytesOf xs).data[k]? = some (UInt8.ofBitVec (xs[k]'hk)) := by
    have e : (bytesOf xs).data = (xs.map UInt8.ofBitVec).toArray := by rw [bytesOf_def]
    rw [e]; simp [hk]
  rw [B8_def]
  congr 1
  have h2 : (bytesOf xs)[k]'h = (bytesOf xs).data[k]'h := rfl
  rw [h2, (Array.getElem?_eq_some_iff.1 h0).2]
  rfl
attribute [go_sem] bytes_at
set_option maxRecDepth 100000 in
set_option maxHeartbeats 1000000 in
/-- the document's Of -/
theorem refvlof_any (xs : List (BitVec 8)) (w : World) : Calls Try.prog 67 #[.string (bytesOf xs)] w (Is w (.tuple (if xs.length ≤ 16 then #[.agg (mkVl xs).arr, .int .i64 0] else #[.agg Vl.zero.arr, .int .i64 2]))) := by
  have hsz := bytesOf_size xs
  by_cases h16 : 16 < xs.length
  · have h16' : (16 : Int) < xs.length := by omega
    rw [if_neg (by omega)]
    go_enter Try.func67, Try.ntmps67
    go_wp2
    exact bodyPost_ret (results_2 rfl (res_cell Try.underlying43 rfl Vl.size' rfl (by simp [go_sem])) res_tmp) rfl ⟨rfl, (by repeat (first | exact Ext.refl _ | assumption | refine Ext.drew ?_ | refine Ext.drewN ?_ _ | refine Ext.alloc ?_ _ | refine Ext.trans ?_ (by assumption)))⟩
  · have h16' : ¬ (16 : Int) < xs.length := by omega
    rw [if_pos (by omega)]
    go_enter Try.func67, Try.ntmps67
    go_wp2
    go_loopw [5] (fun i wr => ∃ k : Nat, k ≤ xs.length ∧ i = .int .i64 k ∧ wr = (w.alloc (.cells Vl.zero.arr 43)).alloc (.cells (Vl.mk xs.length (over (Vector.replicate 16 0#8) (xs.take k))).arr 43)) (fun i _ => xs.length - (intOf i).toNat)
    case atStart => exact ⟨0, by omega, rfl, by rw [List.take_zero, over_nil]⟩
    case round =>
      obtain ⟨k, hk, rfl, rfl⟩ := hrel
      by_cases hlt : k < xs.length
      · have hk16 : k < 16 := by omega
        have HO := Lib.hid (over_take (m := 16) xs k hlt)
        go_wp2
        go_roundw
        case rel => exact ⟨k + 1, by omega, by go_num, by rw [HO.out]⟩
        case measure => simp [intOf]; omega
      · obtain rfl : k = xs.length := by omega
        go_wp2
        exact bodyPost_ret (results_2 rfl (res_cell (cs := (mkVl xs).arr) Try.underlying43 rfl Vl.size' rfl (by simp [go_sem, over_zero, mkVl])) res_tmp) rfl ⟨rfl, (by repeat (first | exact Ext.refl _ | assumption | refine Ext.drew ?_ | refine Ext.drewN ?_ _ | refine Ext.alloc ?_ _ | refine Ext.trans ?_ (by assumption)))⟩
set_option maxRecDepth 100000 in
set_option maxHeartbeats 1000000 in
/-- the document's Of -/
theorem refkeyof_any (xs : List (BitVec 8)) (w : World) : Calls Try.prog 52 #[.string (bytesOf xs)] w (Is w (.tuple (if xs.length ≤ 8 then #[.agg (mkKey xs).arr, .int .i64 0] else #[.agg Key.zero.arr, .int .i64 2]))) := by
  have hsz := bytesOf_size xs
  by_cases h16 : 8 < xs.length
  · have h16' : (8 : Int) < xs.length := by omega
    rw [if_neg (by omega)]
    go_enter Try.func52, Try.ntmps52
    go_wp2
    exact bodyPost_ret (results_2 rfl (res_cell Try.underlying40 rfl Key.size' rfl (by simp [go_sem])) res_tmp) rfl ⟨rfl, (by repeat (first | exact Ext.refl _ | assumption | refine Ext.drew ?_ | refine Ext.drewN ?_ _ | refine Ext.alloc ?_ _ | refine Ext.trans ?_ (by assumption)))⟩
  · have h16' : ¬ (8 : Int) < xs.length := by omega
    rw [if_pos (by omega)]
    go_enter Try.func52, Try.ntmps52
    go_wp2
    go_loopw [5] (fun i wr => ∃ k : Nat, k ≤ xs.length ∧ i = .int .i64 k ∧ wr = (w.alloc (.cells Key.zero.arr 40)).alloc (.cells (Key.mk xs.length (over (Vector.replicate 8 0#8) (xs.take k))).arr 40)) (fun i _ => xs.length - (intOf i).toNat)
    case atStart => exact ⟨0, by omega, rfl, by rw [List.take_zero, over_nil]⟩
    case round =>
      obtain ⟨k, hk, rfl, rfl⟩ := hrel
      by_cases hlt : k < xs.length
      · have hk16 : k < 8 := by omega
        have HO := Lib.hid (over_take (m := 8) xs k hlt)
        go_wp2
        go_roundw
        case rel => exact ⟨k + 1, by omega, by go_num, by rw [HO.out]⟩
        case measure => simp [intOf]; omega
      · obtain rfl : k = xs.length := by omega
        go_wp2
        exact bodyPost_ret (results_2 rfl (res_cell (cs := (mkKey xs).arr) Try.underlying40 rfl Key.size' rfl (by simp [go_sem, over_zero, mkKey])) res_tmp) rfl ⟨rfl, (by repeat (first | exact Ext.refl _ | assumption | refine Ext.drew ?_ | refine Ext.drewN ?_ _ | refine Ext.alloc ?_ _ | refine Ext.trans ?_ (by assumption)))⟩

/-! ### numbers of values -/
set_option maxRecDepth 100000 in
set_option maxHeartbeats 1000000 in
/-- the document's Number -/
theorem refnumber_any (v : Vl) (w : World) : Calls Try.prog 74 #[.agg v.arr] w (Is w (.int .u64 (D64 (numOf v)))) := by
  have hs := sl_of_bArr (g := w.heap.size) (o := 1) (w := w.alloc (.cells v.arr 43)) (b := v.b) (by rw [row_alloc_at _ _ _ _ _ _ _ rfl]; exact Vl.row_b v) 8 16 (by omega) (by omega) (by unfold maxLen; omega)
  have HS := Lib.hid hs
  clear hs
  go_enter Try.func74, Try.ntmps74
  go_wp2_with fail
  refine (refnum_any _ _ 0 8 _ HS.out (by omega) (by omega) (by simp)).mono ?_
  rintro e w1 ⟨rfl, rfl⟩
  go_wp2
  go_ret
  exact ⟨by simp [numOf, seg, List.take_take], (by repeat (first | exact Ext.refl _ | assumption | refine Ext.drew ?_ | refine Ext.drewN ?_ _ | refine Ext.alloc ?_ _ | refine Ext.trans ?_ (by assumption)))⟩

set_option maxRecDepth 100000 in
set_option maxHeartbeats 1000000 in
/-- the document's From -/
theorem reffrom_any (n : BitVec 64) (w : World) : Calls Try.prog 65 #[.int .u64 (D64 n)] w (Is w (.agg (fromN n).arr)) := by
  go_enter Try.func65, Try.ntmps65
  go_wp2_with fail
  refine (refput_any _ [] _ 8 _ (Sl.nil _ _ _) (by simp) (by omega) (by omega)).mono ?_
  rintro e w1 ⟨u, rfl, hown, he1⟩
  have hl := leBytes_length n 8
  rw [List.nil_append] at hown
  have hle := he1.le
  obtain ⟨g, cap, rfl, hbg, hg1, hc1, hc2, hcc⟩ := hown.open1 be_ok (by rw [hl]; omega)
  have hbox : Box w1 (w.heap.size + 1) (Vl.mk 8 (Vector.replicate 16 0#8)).arr 43 := (by repeat (first | with_reducible assumption | with_reducible exact Box.new (by simp) | with_reducible refine Box.past ?_ _ | with_reducible refine Box.drew ?_ | with_reducible refine Box.drewN ?_ _ | refine Box.ext ?_ (by with_reducible assumption)))
  have hbox2 : Box w1 w.heap.size Vl.zero.arr 43 := (by repeat (first | with_reducible assumption | with_reducible exact Box.new (by simp) | with_reducible refine Box.past ?_ _ | with_reducible refine Box.drew ?_ | with_reducible refine Box.drewN ?_ _ | refine Box.ext ?_ (by with_reducible assumption)))
  have hgne : g ≠ w.heap.size + 1 := by simp at hbg; omega
  have HB := Lib.hid hbg
  have HC := Lib.hid hcc
  have HL := Lib.hid hl
  clear hown hbg hcc hle hl
  go_wp2
  go_loopw [5] (fun i wr => ∃ k : Nat, k ≤ 8 ∧ i = .int .i64 k ∧ Box wr (w.heap.size + 1) (Vl.mk 8 (over (Vector.replicate 16 0#8) ((leBytes n 8).take k))).arr 43 ∧ w1.grownBy wr (some (w.heap.size + 1))) (fun i _ => 8 - (intOf i).toNat)
  case atStart => exact ⟨0, by omega, rfl, by rw [List.take_zero, over_nil]; exact hbox, World.grownBy.refl _ _⟩
  case round =>
    obtain ⟨k, hk, rfl, hb, hgr⟩ := hrel
    have HBX := Lib.hid hb
    have hg2 : g < wr.heap.size := Nat.lt_of_lt_of_le hg1 hgr.size
    have hw2 : w.heap.size + 1 < wr.heap.size := hb.lt
    clear hb
    by_cases hlt : k < 8
    · have hlt' : (k : Int) < 8 := by omega
      have hkl : k < (leBytes n 8).length := by rw [HL.out]; exact hlt
      have hc := (HC.out k hkl _ rfl).1
      have hcw : wr.cell? ⟨g, k, none⟩ = some (.int .u8 (B8 (leBytes n 8)[k])) := hgr.cell hc (by simp; omega)
      have hcv : wr.cell? ⟨w.heap.size + 1, 1 + k, none⟩ = _ := HBX.out.cell (1 + k) (Vl.arr_b _ k (by omega))
      have hfr := HBX.out.frozen (1 + k)
      have HO := Lib.hid (over_take (m := 16) (leBytes n 8) k hkl)
      clear hc
      generalize hx : (leBytes n 8)[k] = x at *
      have HX := Lib.hid hx
      clear hx
      have HL2 := Lib.hid (show (leBytes n 8).length = 8 from HL.out)
      rw [HL.out] at hc1
      have hcap : (k : Int) < cap := by omega
      go_wp2
      go_roundw
      case rel =>
        have hst := HBX.out.set (1 + k) (.int .u8 (B8 x))
        rw [Vl.setb_b _ k (by omega)] at hst
        exact ⟨k + 1, by omega, by go_num, by rw [← HO.out]; exact hst, gset hgr _ _⟩
      case measure => simp [intOf]; omega
    · obtain rfl : k = 8 := by omega
      have hrow := (HBX.out.row 0 17).trans (Vl.row _)
      have hbx2 := hbox2.grown hgr (by simp)
      have hrow2 := (hbx2.row 0 17).trans (Vl.row _)
      have hfree2 := hbx2.free
      have hf : (Vl.mk 8 (over (Vector.replicate 16 0#8) ((leBytes n 8).take 8))).arr = (fromN n).arr := by
        have hl := HL.out
        unfold fromN mkVl
        rw [List.take_of_length_le (by omega), over_zero, hl]; rfl
      have hew : Ext w wr := (show Ext w w1 from (by repeat (first | exact Ext.refl _ | assumption | refine Ext.drew ?_ | refine Ext.drewN ?_ _ | refine Ext.alloc ?_ _ | refine Ext.trans ?_ (by assumption)))).grown hgr (fun k hk => by injection hk with hk; omega)
      rw [hf] at hrow
      clear hf
      go_wp2
      exact bodyPost_ret (results_1 rfl (res_cell (cs := (fromN n).arr) Try.underlying43 rfl Vl.size' rfl (by rw [(hbx2.put 0 _).row, Vl.put, Vl.row]))) rfl ⟨rfl, hew.putRow (Nat.le_refl _)⟩

set_option maxRecDepth 100000 in
set_option maxHeartbeats 1000000 in
/-- the document's Plus -/
theorem refplus_any (v : Vl) (n : BitVec 64) (w : World) : Calls Try.prog 66 #[.agg v.arr, .int .u64 (D64 n)] w (Is w (.agg (vplus v n).arr)) := by
  have hbx : Box ((w.alloc (.cells v.arr 43)).alloc (.cells Vl.zero.arr 43)) (w.heap.size + 1) Vl.zero.arr 43 := (by repeat (first | with_reducible assumption | with_reducible exact Box.new (by simp) | with_reducible refine Box.past ?_ _ | with_reducible refine Box.drew ?_ | with_reducible refine Box.drewN ?_ _ | refine Box.ext ?_ (by with_reducible assumption)))
  have H := Lib.hid hbx
  clear hbx
  go_enter Try.func66, Try.ntmps66
  go_wp2_with fail
  refine (refnumber_any _ _).mono ?_
  rintro e w1 ⟨rfl, he1⟩
  go_wp2_with fail
  refine (reffrom_any _ _).mono ?_
  rintro e w2 ⟨rfl, he2⟩
  have hb2 := H.out.ext (he1.trans he2)
  have hrow := (hb2.row 0 17).trans (Vl.row _)
  have hfree := hb2.free
  go_wp2
  exact bodyPost_ret (results_1 rfl (res_cell (cs := (vplus v n).arr) Try.underlying43 rfl Vl.size' rfl (by rw [(hb2.put 0 _).row, Vl.put]; exact Vl.row _))) rfl ⟨rfl, Ext.putRow (show Ext w w2 from (by repeat (first | exact Ext.refl _ | assumption | refine Ext.drew ?_ | refine Ext.drewN ?_ _ | refine Ext.alloc ?_ _ | refine Ext.trans ?_ (by assumption)))) (by omega)⟩
end Go.Proofs.Ytkpjkfjlpiidbaa

namespace Go.Proofs.Ytkpjkfjlpiidbaa
open Go Go.RowKit
set_option linter.unusedVariables false
set_option linter.unusedSimpArgs false
set_option maxRecDepth 100000

set_option maxRecDepth 100000 in
set_option maxHeartbeats 1000000 in
theorem vlof_any (v : Value) (xs : List (BitVec 8)) (w : World) (h : Sl be 1 w v xs) (h16 : xs.length ≤ 16) : Calls Try.prog 80 #[v] w (Is w (.agg (mkVl xs).arr)) := by
  obtain ⟨A, cap, rfl, h0, hc, hA⟩ := h
  unfold maxLen at hc
  by_cases hpos : 0 < xs.length
  · obtain ⟨b, off, rfl, hb, hr⟩ := SlAt.row be_ok hA hpos
    rw [Nat.mul_one] at hr
    have hmin : min xs.length 16 = xs.length := by omega
    have hmin2 : min 16 xs.length = xs.length := by omega
    go_enter Try.func80, Try.ntmps80
    go_wp2
    exact bodyPost_ret (results_1 rfl (res_cell (cs := (mkVl xs).arr) Try.underlying43 rfl Vl.size' rfl (by simp [go_sem, over_zero, mkVl]))) rfl ⟨rfl, (by repeat (first | exact Ext.refl _ | assumption | refine Ext.drew ?_ | refine Ext.drewN ?_ _ | refine Ext.alloc ?_ _ | refine Ext.trans ?_ (by assumption)))⟩
  · obtain rfl : xs = [] := List.eq_nil_of_length_eq_zero (by omega)
    go_enter Try.func80, Try.ntmps80
    go_wp2
    exact bodyPost_ret (results_1 rfl (res_cell (cs := (mkVl []).arr) Try.underlying43 rfl Vl.size' rfl (by rw [row_alloc_past _ _ _ _ _ (by simp), row_alloc_at _ _ _ _ _ _ _ rfl]; rw [show mkVl [] = Vl.zero from rfl]; exact Vl.row _))) rfl ⟨rfl, (by repeat (first | exact Ext.refl _ | assumption | refine Ext.drew ?_ | refine Ext.drewN ?_ _ | refine Ext.alloc ?_ _ | refine Ext.trans ?_ (by assumption)))⟩

theorem Vl.ok_false (k : Vl) : k.ok = false ↔ k.n < 0 ∨ 16 < k.n ∨ trunc k.b k.n.toNat ≠ k.b := by
  rw [← Bool.not_eq_true, Vl.ok_iff]
  constructor
  · intro h
    by_cases h1 : k.n < 0
    · exact .inl h1
    · by_cases h2 : 16 < k.n
      · exact .inr (.inl h2)
      · exact .inr (.inr fun h3 => h ⟨by omega, by omega, h3⟩)
  · rintro (h | h | h) ⟨h1, h2, h3⟩
    · omega
    · omega
    · exact h h3
theorem mkVl_take (b : Vector (BitVec 8) 16) (n : Nat) (h : n ≤ 16) : mkVl (b.toList.take n) = ⟨n, trunc b n⟩ := by
  unfold mkVl
  rw [← over_zero, over_zero_cut]
  congr 1
  simp; omega

set_option maxRecDepth 100000 in
set_option maxHeartbeats 4000000 in
theorem vlcheck_any (k : Vl) (w : World) : Calls Try.prog 76 #[.agg k.arr] w (Is w (.bool k.ok)) := by
  have hbx : Box (w.alloc (.cells k.arr 43)) w.heap.size k.arr 43 := (by repeat (first | with_reducible assumption | with_reducible exact Box.new (by simp) | with_reducible refine Box.past ?_ _ | with_reducible refine Box.drew ?_ | with_reducible refine Box.drewN ?_ _ | refine Box.ext ?_ (by with_reducible assumption)))
  have H := Lib.hid hbx
  clear hbx
  have hC : (w.alloc (.cells k.arr 43)).cell? ⟨w.heap.size, 0, none⟩ = some (.int .i64 k.n) := H.out.cell 0 (Vl.arr_n _)
  by_cases h0 : k.n < 0
  · have hok : k.ok = false := (Vl.ok_false k).2 (.inl h0)
    have hd : decide (0 ≤ k.n) = false := decide_eq_false (by omega)
    go_enter Try.func76, Try.ntmps76
    go_wp2
    go_quiet (fail)
    go_wp2
    go_ret
    exact ⟨by simp [hok], (by repeat (first | exact Ext.refl _ | assumption | refine Ext.drew ?_ | refine Ext.drewN ?_ _ | refine Ext.alloc ?_ _ | refine Ext.trans ?_ (by assumption)))⟩
  have h0' : 0 ≤ k.n := by omega
  by_cases h8 : 16 < k.n
  · have hok : k.ok = false := (Vl.ok_false k).2 (.inr (.inl h8))
    have hd : decide (k.n ≤ 16) = false := decide_eq_false (by omega)
    go_enter Try.func76, Try.ntmps76
    go_wp2
    go_quiet (fail)
    go_wp2
    go_ret
    exact ⟨by simp [hok], (by repeat (first | exact Ext.refl _ | assumption | refine Ext.drew ?_ | refine Ext.drewN ?_ _ | refine Ext.alloc ?_ _ | refine Ext.trans ?_ (by assumption)))⟩
  have h8' : k.n ≤ 16 := by omega
  clear hC
  obtain ⟨kn, kb⟩ := k
  obtain ⟨n, rfl⟩ : ∃ n : Nat, kn = (n : Int) := ⟨kn.toNat, by simp at h0'; omega⟩
  have hn8 : n ≤ 16 := by simp at h8'; omega
  have hn8' : (n : Int) ≤ 16 := by omega
  have hk : (Vl.mk (n : Int) kb).ok = decide (mkVl (kb.toList.take n) = Vl.mk n kb) := by
    rw [Bool.eq_iff_iff, Vl.ok_iff, mkVl_take _ _ hn8]; simp [hn8']
  have HK := Lib.hid hk
  clear hk
  have hA : row? (w.alloc (.cells (Vl.mk n kb).arr 43)) w.heap.size 0 17 = some (Vl.mk n kb).arr := by rw [H.out.row]; exact Vl.row _
  have hC : (w.alloc (.cells (Vl.mk n kb).arr 43)).cell? ⟨w.heap.size, 0, none⟩ = some (.int .i64 n) := H.out.cell 0 (Vl.arr_n _)
  have hB : row? (w.alloc (.cells (Vl.mk n kb).arr 43)) w.heap.size 1 16 = some (bArr kb) := by rw [H.out.row]; exact Vl.row_b _
  have HB := Lib.hid hB
  clear hB
  go_enter Try.func76, Try.ntmps76
  go_wp2
  go_region_held3 (fun W => row? W w.heap.size 0 17 = some (Vl.mk n kb).arr ∧ W.cell? ⟨w.heap.size, 0, none⟩ = some (.int .i64 n))
    (exact ⟨Ext.row (by repeat (first | exact Ext.refl _ | assumption | refine Ext.drew ?_ | refine Ext.drewN ?_ _ | refine Ext.alloc ?_ _ | refine Ext.trans ?_ (by assumption))) hA, Ext.cell (by repeat (first | exact Ext.refl _ | assumption | refine Ext.drew ?_ | refine Ext.drewN ?_ _ | refine Ext.alloc ?_ _ | refine Ext.trans ?_ (by assumption))) hC⟩)
    ((go_at_call 80; refine (vlof_any _ _ _ (sl_of_bArr (Ext.row (by repeat (first | exact Ext.refl _ | assumption | refine Ext.drew ?_ | refine Ext.drewN ?_ _ | refine Ext.alloc ?_ _ | refine Ext.trans ?_ (by assumption))) HB.out) n 16 hn8 hn8 (by unfold maxLen; omega)) (by simp; omega)).mono ?_; rintro e w1 ⟨rfl, he1⟩))
  go_wp2
  go_ret
  exact ⟨by rw [HK.out]; rfl, (by repeat (first | exact Ext.refl _ | assumption | refine Ext.drew ?_ | refine Ext.drewN ?_ _ | refine Ext.alloc ?_ _ | refine Ext.trans ?_ (by assumption)))⟩

set_option maxHeartbeats 1000000 in
/-- the document's Check -/
theorem refvlcheck_any (k : Vl) (w : World) : Calls Try.prog 62 #[.agg k.arr] w (Is w (.bool k.ok)) := by
  by_cases h0 : k.n < 0
  · have hok : k.ok = false := (Vl.ok_false k).2 (.inl h0)
    go_enter Try.func62, Try.ntmps62
    go_wp2
    go_ret
    exact ⟨by simp [hok], (by repeat (first | exact Ext.refl _ | assumption | refine Ext.drew ?_ | refine Ext.drewN ?_ _ | refine Ext.alloc ?_ _ | refine Ext.trans ?_ (by assumption)))⟩
  have h0' : 0 ≤ k.n := by omega
  by_cases h8 : 16 < k.n
  · have hok : k.ok = false := (Vl.ok_false k).2 (.inr (.inl h8))
    go_enter Try.func62, Try.ntmps62
    go_wp2
    go_ret
    exact ⟨by simp [hok], (by repeat (first | exact Ext.refl _ | assumption | refine Ext.drew ?_ | refine Ext.drewN ?_ _ | refine Ext.alloc ?_ _ | refine Ext.trans ?_ (by assumption)))⟩
  have h8' : k.n ≤ 16 := by omega
  obtain ⟨n, hn⟩ : ∃ n : Nat, k.n = (n : Int) := ⟨k.n.toNat, by omega⟩
  have H0 := Lib.hid hn
  have hn8 : n ≤ 16 := by omega
  clear hn
  go_enter Try.func62, Try.ntmps62
  go_wp2
  go_loop [3] (fun x => ∃ i : Nat, n ≤ i ∧ i ≤ 16 ∧ x = .int .i64 i ∧ ∀ j (h : j < 16), n ≤ j → j < i → k.b[j] = 0#8) (fun x => 16 - (intOf x).toNat)
  case atStart => exact ⟨n, by omega, by omega, by rw [H0.out], fun j _ h1 h2 => absurd h1 (by omega)⟩
  case round =>
    obtain ⟨i, h1, h2, rfl, hz⟩ := hrel
    have HZ := Lib.hid hz
    clear hz
    have H0' := H0.out
    have hni : k.n ≤ i := by omega
    clear H0'
    by_cases hlt : i < 16
    · by_cases hb : k.b[i] = 0#8
      · go_wp2
        go_round
        case rel =>
          refine ⟨i + 1, by omega, by omega, by go_num, fun j hj h3 h4 => ?_⟩
          by_cases h5 : j = i
          · subst h5; exact hb
          · exact HZ.out j hj h3 (by omega)
        case measure => simp [intOf]; omega
      · have hok : k.ok = false := (Vl.ok_false k).2 (.inr (.inr fun h => hb ((trunc_iff _ _).1 h i hlt (by omega))))
        go_wp2
        go_ret
        exact ⟨by simp [hok], (by repeat (first | exact Ext.refl _ | assumption | refine Ext.drew ?_ | refine Ext.drewN ?_ _ | refine Ext.alloc ?_ _ | refine Ext.trans ?_ (by assumption)))⟩
    · obtain rfl : i = 16 := by omega
      have hok : k.ok = true := (Vl.ok_iff k).2 ⟨h0', h8', (trunc_iff _ _).2 fun j hj h3 => HZ.out j hj (by rw [H0.out] at h3; omega) hj⟩
      go_wp2
      go_ret
      exact ⟨by simp [hok], (by repeat (first | exact Ext.refl _ | assumption | refine Ext.drew ?_ | refine Ext.drewN ?_ _ | refine Ext.alloc ?_ _ | refine Ext.trans ?_ (by assumption)))⟩

end Go.Proofs.Ytkpjkfjlpiidbaa

namespace Go.Proofs.Ytkpjkfjlpiidbaa
open Go Go.RowKit
set_option linter.unusedVariables false
set_option linter.unusedSimpArgs false
set_option maxRecDepth 100000

set_option maxRecDepth 100000 in
set_option maxHeartbeats 1000000 in
theorem lplace_any (v n : Int) (w : World) (h0 : 0 < n) (h1 : n ≤ 9223372036854775807) (hv : -9223372036854775808 ≤ v ∧ v ≤ 9223372036854775807) :
    Calls Try.prog 28 #[.int .i64 v, .int .i64 n] w fun e w' => e = .returned (.int .i64 (v % n)) ∧ w' = w := by
  have hn : n ≠ 0 := by omega
  have hn1 : ¬ n = -1 := by omega
  have hb := Int.natAbs_tmod v n
  have hlt : (v.tmod n).natAbs < n.natAbs := by rw [hb]; exact Nat.mod_lt _ (by omega)
  have hem : v % n = if v.tmod n < 0 then v.tmod n + n else v.tmod n := by
    have e1 := Int.emod_def v n
    have e2 := Int.tmod_def v n
    have e3 := Int.emod_nonneg v hn
    have e4 := Int.emod_lt_of_pos v h0
    have e5 : v % n = v.tmod n ∨ v % n = v.tmod n + n := by
      rw [Int.emod_eq_tmod]; split
      · exact .inl (by omega)
      · right; omega
    split <;> omega
  have HE := Lib.hid hem
  clear hem hb
  by_cases hneg : v.tmod n < 0
  · have i1 : IntKind.i64.wrap (v.tmod n + n) = v.tmod n + n := IntWalk.i64_in _ (by omega)
    have i2 : IntKind.i64.wrap (v.tmod n) = v.tmod n := IntWalk.i64_in _ (by omega)
    have HN := Lib.hid hneg
    go_enter Try.func28, Try.ntmps28
    go_wp2
    go_ret
    exact ⟨by rw [HE.out, if_pos HN.out]; rfl, rfl⟩
  · have i2 : IntKind.i64.wrap (v.tmod n) = v.tmod n := IntWalk.i64_in _ (by omega)
    have HE2 := Lib.hid (HE.out.trans (if_neg hneg))
    clear HE
    go_enter Try.func28, Try.ntmps28
    go_wp2
    go_ret
    exact ⟨by rw [HE2.out]; rfl, rfl⟩

/-! ### keys by numbers -/
/-- cells that are bytes -/
@[irreducible] def u8L : List Value → Bool
  | [] => true
  | .int .u8 _ :: l => u8L l
  | _ :: _ => false
theorem u8L_nil : u8L [] = true := by unfold u8L; rfl
theorem u8L_cons (x : Int) (l : List Value) : u8L (.int .u8 x :: l) = u8L l := by rw [u8L]
/-- a cell's byte -/
def cellBy : Value → BitVec 8
  | .int _ x => BitVec.ofNat 8 x.toNat
  | _ => 0#8
@[irreducible] def byL (l : List Value) : List (BitVec 8) := l.map cellBy
theorem byL_def (l : List Value) : byL l = l.map cellBy := by unfold byL; rfl
theorem u8L_ints : ∀ (l : List Value), u8L l = true → ∃ ns : List Int, l = ns.map (Value.int .u8)
  | [], _ => ⟨[], rfl⟩
  | v :: l, h => by
    cases v with
    | int k x =>
      cases k <;> first | (rw [u8L_cons] at h; obtain ⟨ns, rfl⟩ := u8L_ints l h; exact ⟨x :: ns, rfl⟩) | (unfold u8L at h; cases h)
    | _ => unfold u8L at h; cases h
attribute [go_sem] u8L_nil u8L_cons
/-- the numbers are bytes' -/
theorem cv_alloc (b n c : Nat) (w : World) (l : List Value) (hb : b = w.heap.size) (hn : n = l.length) (hu : u8L l = true) :
    (convert 74 9 (.slice (some ⟨b, 0, none⟩) n c)).run Try.prog (w.alloc (.cells l.toArray 5)) = .ok (.string (bytesOf (byL l))) (w.alloc (.cells l.toArray 5)) := by
  obtain ⟨ns, rfl⟩ := u8L_ints l hu
  subst hb
  subst hn
  rw [run_convert_bytes_string _ 74 9 5 _ _ _ Try.underlying74 Try.underlying5 Try.underlying9]
  have hr : row? (w.alloc (.cells (ns.map (Value.int .u8)).toArray 5)) w.heap.size 0 (ns.map (Value.int .u8)).length = some (ns.map (Value.int .u8)).toArray := by
    rw [row_alloc_at _ _ _ _ _ _ _ rfl]; exact rowOf_full _ _ (by simp)
  have hl := run_loadCells_row (P := Try.prog) hr
  rw [run_bytesToString _ ⟨w.heap.size, 0, none⟩ _ c ns hl]
  have hf : ∀ (l : List Int) (s : ByteArray), (l.foldl (fun r n => r.push (UInt8.ofNat n.toNat)) s) = ⟨s.data ++ (l.map fun n => UInt8.ofNat n.toNat).toArray⟩ := by
    intro l
    induction l with
    | nil => intro s; simp
    | cons x l ih =>
      intro s
      rw [List.foldl_cons, ih]
      congr 1
      simp [ByteArray.push]
  rw [hf, bytesOf_def, byL_def]
  congr 2
  simp [ByteArray.empty, ByteArray.emptyWithCapacity, Function.comp_def, cellBy]
  rfl
attribute [go_sem] cv_alloc

theorem bytes_extract (l : List (BitVec 8)) (n : Nat) : (bytesOf l).extract 0 n = bytesOf (l.take n) := by
  rw [bytesOf_def, bytesOf_def]
  apply ByteArray.ext
  rw [ByteArray.data_extract]
  simp [List.map_take]
attribute [go_sem] bytes_extract
theorem byL_length (l : List Value) : (byL l).length = l.length := by rw [byL_def]; simp

def bN (n : Nat) : BitVec 8 := BitVec.ofNat 8 n
def keyText (k : Nat) : List (BitVec 8) :=
  match k % 8 with
  | 0 | 1 | 2 => [bN (97 + k / 8 % 6)]
  | 3 | 4 => [bN (97 + k / 8 % 5), bN (97 + k / 40 % 4)]
  | 5 => [bN (97 + k / 8 % 4), 0, bN (k / 32 % 256), bN (k / 8192 % 4), 255, 120, 121, bN (97 + k / 32768 % 3)]
  | 6 => [bN (98 + k / 8 % 3), 108, 111, 110, 103, 101, 114, bN (48 + k / 24 % 9)]
  | _ => [bN (k / 8 % 256), bN (k / 2048 % 256)].take (k / 524288 % 3)
def lawKey (v : Int) : Key := mkKey (keyText (v % 1099511627776).toNat)

theorem keyText_length (k : Nat) : (keyText k).length ≤ 8 := by
  unfold keyText
  split <;> simp
  omega
theorem lawKey_ok (v : Int) : (lawKey v).ok = true := mkKey_ok _ (keyText_length _)
theorem by_n (n : Nat) (x : Int) (h : x = (n : Int)) : BitVec.ofNat 8 x.toNat = bN n := by subst h; rfl

set_option maxRecDepth 100000 in
set_option maxHeartbeats 8000000 in
theorem lkey_any (v : Int) (w : World) (hv : -9223372036854775808 ≤ v ∧ v ≤ 9223372036854775807) : Calls Try.prog 29 #[.int .i64 v] w (Is w (.agg (lawKey v).arr)) := by
  obtain ⟨k, hk⟩ : ∃ k : Nat, v % 1099511627776 = (k : Int) := ⟨(v % 1099511627776).toNat, by omega⟩
  have hlt : k < 1099511627776 := by omega
  have hbx : Box (w.alloc (.cells Key.zero.arr 40)) w.heap.size Key.zero.arr 40 := (by repeat (first | with_reducible assumption | with_reducible exact Box.new (by simp) | with_reducible refine Box.past ?_ _ | with_reducible refine Box.drew ?_ | with_reducible refine Box.drewN ?_ _ | refine Box.ext ?_ (by with_reducible assumption)))
  have HB := Lib.hid hbx
  have HK := Lib.hid hk
  have hlk : lawKey v = mkKey (keyText k) := by unfold lawKey; rw [hk]; rfl
  have HL := Lib.hid hlk
  have hlen := keyText_length k
  have HN := Lib.hid hlen
  have hk0 : (0 : Int) ≤ (k : Int) := by omega
  clear hbx hk hlk hlen
  by_cases h0 : (k : Int) % 8 = 0
  · have hby : byL [.int .u8 (97 + (k : Int) / 8 % 6)] = keyText k := by
      rw [byL_def]
      unfold keyText
      rw [show k % 8 = 0 from by omega]
      simp only [List.map_cons, List.map_nil, cellBy]
      repeat (first | rfl | (refine congr (congrArg List.cons (by_n _ _ (by omega))) ?_) | (refine congr (congrArg List.cons rfl) ?_))
    have HY := Lib.hid hby
    clear hby
    go_enter Try.func29, Try.ntmps29
    go_wp2_with fail
    refine (lplace_any _ _ _ (by omega) (by omega) hv).mono ?_
    rintro e w1 ⟨rfl, rfl⟩
    rw [HK.out]
    go_wp2_with fail
    rw [HY.out]
    refine (refkeyof_any _ _).mono ?_
    rintro e w2 ⟨rfl, he2⟩
    rw [if_pos HN.out]
    have hb2 : Box w2 w.heap.size Key.zero.arr 40 := HB.out.ext (((Ext.refl _).alloc _).trans he2)
    have hrow := (hb2.row 0 9).trans (Key.row _)
    have hfree := hb2.free
    have hlt2 := hb2.lt
    go_wp2
    exact bodyPost_ret (results_1 rfl (res_cell (cs := (lawKey v).arr) Try.underlying40 rfl Key.size' rfl (by rw [row_alloc_past _ _ _ _ _ (by rw [putRow_size]; exact hlt2), (hb2.put 0 _).row, Key.put, HL.out]; exact Key.row _))) rfl ⟨rfl, Ext.alloc (Ext.putRow (Ext.trans (((Ext.refl w).alloc _).alloc _) he2) (Nat.le_refl _)) _⟩
  by_cases h1 : (k : Int) % 8 = 1
  · have hby : byL [.int .u8 (97 + (k : Int) / 8 % 6)] = keyText k := by
      rw [byL_def]
      unfold keyText
      rw [show k % 8 = 1 from by omega]
      simp only [List.map_cons, List.map_nil, cellBy]
      repeat (first | rfl | (refine congr (congrArg List.cons (by_n _ _ (by omega))) ?_) | (refine congr (congrArg List.cons rfl) ?_))
    have HY := Lib.hid hby
    clear hby
    go_enter Try.func29, Try.ntmps29
    go_wp2_with fail
    refine (lplace_any _ _ _ (by omega) (by omega) hv).mono ?_
    rintro e w1 ⟨rfl, rfl⟩
    rw [HK.out]
    go_wp2_with fail
    rw [HY.out]
    refine (refkeyof_any _ _).mono ?_
    rintro e w2 ⟨rfl, he2⟩
    rw [if_pos HN.out]
    have hb2 : Box w2 w.heap.size Key.zero.arr 40 := HB.out.ext (((Ext.refl _).alloc _).trans he2)
    have hrow := (hb2.row 0 9).trans (Key.row _)
    have hfree := hb2.free
    have hlt2 := hb2.lt
    go_wp2
    exact bodyPost_ret (results_1 rfl (res_cell (cs := (lawKey v).arr) Try.underlying40 rfl Key.size' rfl (by rw [row_alloc_past _ _ _ _ _ (by rw [putRow_size]; exact hlt2), (hb2.put 0 _).row, Key.put, HL.out]; exact Key.row _))) rfl ⟨rfl, Ext.alloc (Ext.putRow (Ext.trans (((Ext.refl w).alloc _).alloc _) he2) (Nat.le_refl _)) _⟩
  by_cases h2 : (k : Int) % 8 = 2
  · have hby : byL [.int .u8 (97 + (k : Int) / 8 % 6)] = keyText k := by
      rw [byL_def]
      unfold keyText
      rw [show k % 8 = 2 from by omega]
      simp only [List.map_cons, List.map_nil, cellBy]
      repeat (first | rfl | (refine congr (congrArg List.cons (by_n _ _ (by omega))) ?_) | (refine congr (congrArg List.cons rfl) ?_))
    have HY := Lib.hid hby
    clear hby
    go_enter Try.func29, Try.ntmps29
    go_wp2_with fail
    refine (lplace_any _ _ _ (by omega) (by omega) hv).mono ?_
    rintro e w1 ⟨rfl, rfl⟩
    rw [HK.out]
    go_wp2_with fail
    rw [HY.out]
    refine (refkeyof_any _ _).mono ?_
    rintro e w2 ⟨rfl, he2⟩
    rw [if_pos HN.out]
    have hb2 : Box w2 w.heap.size Key.zero.arr 40 := HB.out.ext (((Ext.refl _).alloc _).trans he2)
    have hrow := (hb2.row 0 9).trans (Key.row _)
    have hfree := hb2.free
    have hlt2 := hb2.lt
    go_wp2
    exact bodyPost_ret (results_1 rfl (res_cell (cs := (lawKey v).arr) Try.underlying40 rfl Key.size' rfl (by rw [row_alloc_past _ _ _ _ _ (by rw [putRow_size]; exact hlt2), (hb2.put 0 _).row, Key.put, HL.out]; exact Key.row _))) rfl ⟨rfl, Ext.alloc (Ext.putRow (Ext.trans (((Ext.refl w).alloc _).alloc _) he2) (Nat.le_refl _)) _⟩
  by_cases h3 : (k : Int) % 8 = 3
  · have hby : byL [.int .u8 (97 + (k : Int) / 8 % 5), .int .u8 (97 + (k : Int) / 40 % 4)] = keyText k := by
      rw [byL_def]
      unfold keyText
      rw [show k % 8 = 3 from by omega]
      simp only [List.map_cons, List.map_nil, cellBy]
      repeat (first | rfl | (refine congr (congrArg List.cons (by_n _ _ (by omega))) ?_) | (refine congr (congrArg List.cons rfl) ?_))
    have HY := Lib.hid hby
    clear hby
    go_enter Try.func29, Try.ntmps29
    go_wp2_with fail
    refine (lplace_any _ _ _ (by omega) (by omega) hv).mono ?_
    rintro e w1 ⟨rfl, rfl⟩
    rw [HK.out]
    go_wp2_with fail
    rw [HY.out]
    refine (refkeyof_any _ _).mono ?_
    rintro e w2 ⟨rfl, he2⟩
    rw [if_pos HN.out]
    have hb2 : Box w2 w.heap.size Key.zero.arr 40 := HB.out.ext (((Ext.refl _).alloc _).trans he2)
    have hrow := (hb2.row 0 9).trans (Key.row _)
    have hfree := hb2.free
    have hlt2 := hb2.lt
    go_wp2
    exact bodyPost_ret (results_1 rfl (res_cell (cs := (lawKey v).arr) Try.underlying40 rfl Key.size' rfl (by rw [row_alloc_past _ _ _ _ _ (by rw [putRow_size]; exact hlt2), (hb2.put 0 _).row, Key.put, HL.out]; exact Key.row _))) rfl ⟨rfl, Ext.alloc (Ext.putRow (Ext.trans (((Ext.refl w).alloc _).alloc _) he2) (Nat.le_refl _)) _⟩
  by_cases h4 : (k : Int) % 8 = 4
  · have hby : byL [.int .u8 (97 + (k : Int) / 8 % 5), .int .u8 (97 + (k : Int) / 40 % 4)] = keyText k := by
      rw [byL_def]
      unfold keyText
      rw [show k % 8 = 4 from by omega]
      simp only [List.map_cons, List.map_nil, cellBy]
      repeat (first | rfl | (refine congr (congrArg List.cons (by_n _ _ (by omega))) ?_) | (refine congr (congrArg List.cons rfl) ?_))
    have HY := Lib.hid hby
    clear hby
    go_enter Try.func29, Try.ntmps29
    go_wp2_with fail
    refine (lplace_any _ _ _ (by omega) (by omega) hv).mono ?_
    rintro e w1 ⟨rfl, rfl⟩
    rw [HK.out]
    go_wp2_with fail
    rw [HY.out]
    refine (refkeyof_any _ _).mono ?_
    rintro e w2 ⟨rfl, he2⟩
    rw [if_pos HN.out]
    have hb2 : Box w2 w.heap.size Key.zero.arr 40 := HB.out.ext (((Ext.refl _).alloc _).trans he2)
    have hrow := (hb2.row 0 9).trans (Key.row _)
    have hfree := hb2.free
    have hlt2 := hb2.lt
    go_wp2
    exact bodyPost_ret (results_1 rfl (res_cell (cs := (lawKey v).arr) Try.underlying40 rfl Key.size' rfl (by rw [row_alloc_past _ _ _ _ _ (by rw [putRow_size]; exact hlt2), (hb2.put 0 _).row, Key.put, HL.out]; exact Key.row _))) rfl ⟨rfl, Ext.alloc (Ext.putRow (Ext.trans (((Ext.refl w).alloc _).alloc _) he2) (Nat.le_refl _)) _⟩
  by_cases h5 : (k : Int) % 8 = 5
  · have hby : byL [.int .u8 (97 + (k : Int) / 8 % 4), .int .u8 (0), .int .u8 ((k : Int) / 32 % 256), .int .u8 ((k : Int) / 8192 % 4), .int .u8 (255), .int .u8 (120), .int .u8 (121), .int .u8 (97 + (k : Int) / 32768 % 3)] = keyText k := by
      rw [byL_def]
      unfold keyText
      rw [show k % 8 = 5 from by omega]
      simp only [List.map_cons, List.map_nil, cellBy]
      repeat (first | rfl | (refine congr (congrArg List.cons (by_n _ _ (by omega))) ?_) | (refine congr (congrArg List.cons rfl) ?_))
    have HY := Lib.hid hby
    clear hby
    go_enter Try.func29, Try.ntmps29
    go_wp2_with fail
    refine (lplace_any _ _ _ (by omega) (by omega) hv).mono ?_
    rintro e w1 ⟨rfl, rfl⟩
    rw [HK.out]
    go_wp2_with fail
    rw [HY.out]
    refine (refkeyof_any _ _).mono ?_
    rintro e w2 ⟨rfl, he2⟩
    rw [if_pos HN.out]
    have hb2 : Box w2 w.heap.size Key.zero.arr 40 := HB.out.ext (((Ext.refl _).alloc _).trans he2)
    have hrow := (hb2.row 0 9).trans (Key.row _)
    have hfree := hb2.free
    have hlt2 := hb2.lt
    go_wp2
    exact bodyPost_ret (results_1 rfl (res_cell (cs := (lawKey v).arr) Try.underlying40 rfl Key.size' rfl (by rw [row_alloc_past _ _ _ _ _ (by rw [putRow_size]; exact hlt2), (hb2.put 0 _).row, Key.put, HL.out]; exact Key.row _))) rfl ⟨rfl, Ext.alloc (Ext.putRow (Ext.trans (((Ext.refl w).alloc _).alloc _) he2) (Nat.le_refl _)) _⟩
  by_cases h6 : (k : Int) % 8 = 6
  · have hby : byL [.int .u8 (98 + (k : Int) / 8 % 3), .int .u8 (108), .int .u8 (111), .int .u8 (110), .int .u8 (103), .int .u8 (101), .int .u8 (114), .int .u8 (48 + (k : Int) / 24 % 9)] = keyText k := by
      rw [byL_def]
      unfold keyText
      rw [show k % 8 = 6 from by omega]
      simp only [List.map_cons, List.map_nil, cellBy]
      repeat (first | rfl | (refine congr (congrArg List.cons (by_n _ _ (by omega))) ?_) | (refine congr (congrArg List.cons rfl) ?_))
    have HY := Lib.hid hby
    clear hby
    go_enter Try.func29, Try.ntmps29
    go_wp2_with fail
    refine (lplace_any _ _ _ (by omega) (by omega) hv).mono ?_
    rintro e w1 ⟨rfl, rfl⟩
    rw [HK.out]
    go_wp2_with fail
    rw [HY.out]
    refine (refkeyof_any _ _).mono ?_
    rintro e w2 ⟨rfl, he2⟩
    rw [if_pos HN.out]
    have hb2 : Box w2 w.heap.size Key.zero.arr 40 := HB.out.ext (((Ext.refl _).alloc _).trans he2)
    have hrow := (hb2.row 0 9).trans (Key.row _)
    have hfree := hb2.free
    have hlt2 := hb2.lt
    go_wp2
    exact bodyPost_ret (results_1 rfl (res_cell (cs := (lawKey v).arr) Try.underlying40 rfl Key.size' rfl (by rw [row_alloc_past _ _ _ _ _ (by rw [putRow_size]; exact hlt2), (hb2.put 0 _).row, Key.put, HL.out]; exact Key.row _))) rfl ⟨rfl, Ext.alloc (Ext.putRow (Ext.trans (((Ext.refl w).alloc _).alloc _) he2) (Nat.le_refl _)) _⟩
  have h7 : (k : Int) % 8 = 7 := by omega
  have hb0 : (0 : Int) ≤ (k : Int) / 524288 % 3 := by omega
  have hb3 : (k : Int) / 524288 % 3 ≤ 2 := by omega
  have hsz : (bytesOf (byL [.int .u8 ((k : Int) / 8 % 256), .int .u8 ((k : Int) / 2048 % 256)])).size = 2 := by rw [bytesOf_size, byL_length]; rfl
  have hby : (byL [.int .u8 ((k : Int) / 8 % 256), .int .u8 ((k : Int) / 2048 % 256)]).take (k / 524288 % 3) = keyText k := by
    rw [byL_def]
    unfold keyText
    rw [show k % 8 = 7 from by omega]
    simp only [List.map_cons, List.map_nil, cellBy]
    rw [by_n (k / 8 % 256) _ (by omega), by_n (k / 2048 % 256) _ (by omega)]
  have HY := Lib.hid hby
  clear hby
  go_enter Try.func29, Try.ntmps29
  go_wp2_with fail
  refine (lplace_any _ _ _ (by omega) (by omega) hv).mono ?_
  rintro e w1 ⟨rfl, rfl⟩
  rw [HK.out]
  go_wp2_with fail
  rw [HY.out]
  refine (refkeyof_any _ _).mono ?_
  rintro e w2 ⟨rfl, he2⟩
  rw [if_pos HN.out]
  have hb2 : Box w2 w.heap.size Key.zero.arr 40 := HB.out.ext (((Ext.refl _).alloc _).trans he2)
  have hrow := (hb2.row 0 9).trans (Key.row _)
  have hfree := hb2.free
  have hlt2 := hb2.lt
  go_wp2
  exact bodyPost_ret (results_1 rfl (res_cell (cs := (lawKey v).arr) Try.underlying40 rfl Key.size' rfl (by rw [row_alloc_past _ _ _ _ _ (by rw [putRow_size]; exact hlt2), (hb2.put 0 _).row, Key.put, HL.out]; exact Key.row _))) rfl ⟨rfl, Ext.alloc (Ext.putRow (Ext.trans (((Ext.refl w).alloc _).alloc _) he2) (Nat.le_refl _)) _⟩
end Go.Proofs.Ytkpjkfjlpiidbaa

namespace Go.Proofs.Ytkpjkfjlpiidbaa
open Go Go.RowKit
set_option linter.unusedVariables false
set_option linter.unusedSimpArgs false
set_option maxRecDepth 100000

def keysA (l : List Key) : AV := .sl none 9 (l.map Key.av)
def intsA (l : List Int) : AV := .sl none 1 (l.map intA)
def bytesA (l : List (BitVec 8)) : AV := .sl none 1 (l.map byteA)
def msgsA (l : List Msg) : AV := .sl none 29 (l.map Msg.av)
def entsA (l : List Ent) : AV := .sl none 26 (l.map Ent.av)
theorem a_keycheck (a : Key) : AFn Try.prog 75 [a.av] (boolA a.ok) := fun U w vs h => by
  obtain ⟨v1, us, rfl, h1, h⟩ := rdp_one h
  obtain rfl := rdp_nil h
  rw [dKey.rdv.1 h1]
  exact ofIs (keycheck_any a w) fun w' => is_v (w := w) rfl
theorem a_keycmp (a b : Key) : AFn Try.prog 72 [a.av, b.av] (intA (keyCmp a b)) := fun U w vs h => by
  obtain ⟨v1, us, rfl, h1, h⟩ := rdp_one h
  obtain ⟨v2, us, rfl, h2, h⟩ := rdp_one h
  obtain rfl := rdp_nil h
  rw [dKey.rdv.1 h1, dKey.rdv.1 h2]
  exact ofIs (keycmp_any a b w) fun w' => is_v (w := w) rfl
theorem a_refkeycheck (a : Key) : AFn Try.prog 61 [a.av] (boolA a.ok) := fun U w vs h => by
  obtain ⟨v1, us, rfl, h1, h⟩ := rdp_one h
  obtain rfl := rdp_nil h
  rw [dKey.rdv.1 h1]
  exact ofIs (refkeycheck_any a w) fun w' => is_v (w := w) rfl
theorem a_refcmp (a b : Key) : AFn Try.prog 55 [a.av, b.av] (intA (refCmp a b)) := fun U w vs h => by
  obtain ⟨v1, us, rfl, h1, h⟩ := rdp_one h
  obtain ⟨v2, us, rfl, h2, h⟩ := rdp_one h
  obtain rfl := rdp_nil h
  rw [dKey.rdv.1 h1, dKey.rdv.1 h2]
  exact ofIs (refkeycmp_any a b w) fun w' => is_v (w := w) rfl
theorem a_vlcheck (a : Vl) : AFn Try.prog 76 [a.av] (boolA a.ok) := fun U w vs h => by
  obtain ⟨v1, us, rfl, h1, h⟩ := rdp_one h
  obtain rfl := rdp_nil h
  rw [dVl.rdv.1 h1]
  exact ofIs (vlcheck_any a w) fun w' => is_v (w := w) rfl
theorem a_refvlcheck (a : Vl) : AFn Try.prog 62 [a.av] (boolA a.ok) := fun U w vs h => by
  obtain ⟨v1, us, rfl, h1, h⟩ := rdp_one h
  obtain rfl := rdp_nil h
  rw [dVl.rdv.1 h1]
  exact ofIs (refvlcheck_any a w) fun w' => is_v (w := w) rfl
theorem u64_arg {U : Uns} {w : World} {B : Blk} {H : Hp} {n : BitVec 64} {v : Value} (h : Rdv U w B H (u64A n) v) : v = .int .u64 (D64 n) := (Rdv_v.1 h).2
theorem int_arg {U : Uns} {w : World} {B : Blk} {H : Hp} {n : Int} {v : Value} (h : Rdv U w B H (intA n) v) : v = .int .i64 n := (Rdv_v.1 h).2
theorem a_refplus (a : Vl) (n : BitVec 64) : AFn Try.prog 66 [a.av, u64A n] (vplus a n).av := fun U w vs h => by
  obtain ⟨v1, us, rfl, h1, h⟩ := rdp_one h
  obtain ⟨v2, us, rfl, h2, h⟩ := rdp_one h
  obtain rfl := rdp_nil h
  rw [dVl.rdv.1 h1, u64_arg h2]
  exact ofIs (refplus_any a n w) fun w' => dVl.rdv.2 rfl
theorem a_lkey (v : Int) (hv : -9223372036854775808 ≤ v ∧ v ≤ 9223372036854775807) : AFn Try.prog 29 [intA v] (lawKey v).av := fun U w vs h => by
  obtain ⟨v1, us, rfl, h1, h⟩ := rdp_one h
  obtain rfl := rdp_nil h
  rw [int_arg h1]
  exact ofIs (lkey_any v w hv) fun w' => dKey.rdv.2 rfl
end Go.Proofs.Ytkpjkfjlpiidbaa

namespace Go.Proofs.Ytkpjkfjlpiidbaa
open Go Go.RowKit
set_option linter.unusedVariables false
set_option linter.unusedSimpArgs false
set_option maxRecDepth 100000

/-! ### plain law -/
@[irreducible] def Msg.ok (m : Msg) : Bool := decide (1 ≤ m.kind) && decide (m.kind ≤ 3) && m.key.ok && (if m.kind = 1 then m.val.ok else decide (m.val = Vl.zero)) && (decide (m.kind = 3) || decide (m.add = 0#64))
theorem D64_eq0 (n : BitVec 64) : D64 n = 0 ↔ n = 0#64 := by
  rw [← D64_zero]
  exact D64_inj
theorem Msg.no1 {m : Msg} (h : m.kind < 1) : m.ok = false := by unfold Msg.ok; simp [show ¬ 1 ≤ m.kind by omega]
theorem Msg.no3 {m : Msg} (h : 3 < m.kind) : m.ok = false := by unfold Msg.ok; simp [show ¬ m.kind ≤ 3 by omega]
theorem Msg.nok {m : Msg} (h : m.key.ok = false) : m.ok = false := by unfold Msg.ok; simp [h]
theorem Msg.nov {m : Msg} (h1 : m.kind = 1) (h : m.val.ok = false) : m.ok = false := by unfold Msg.ok; simp [h1, h]
theorem Msg.noz {m : Msg} (h1 : ¬ m.kind = 1) (h : m.val ≠ Vl.zero) : m.ok = false := by unfold Msg.ok; simp [h1, h]
theorem Msg.okPut {m : Msg} (h1 : m.kind = 1) (hk : m.key.ok = true) (h : m.val.ok = true) : m.ok = decide (D64 m.add = 0) := by
  unfold Msg.ok; simp [h1, hk, h, D64_eq0]
theorem Msg.okDel {m : Msg} (h1 : m.kind = 2) (hk : m.key.ok = true) (h : m.val = Vl.zero) : m.ok = decide (D64 m.add = 0) := by
  unfold Msg.ok; simp [h1, hk, h, D64_eq0]
theorem Msg.okAdd {m : Msg} (h1 : m.kind = 3) (hk : m.key.ok = true) (h : m.val = Vl.zero) : m.ok = true := by
  unfold Msg.ok; simp [h1, hk, h]
theorem Msg.spec {m : Msg} (h : m.ok = true) : 1 ≤ m.kind ∧ m.kind ≤ 3 ∧ m.key.ok = true ∧ m.val.ok = true ∧ (m.kind ≠ 1 → m.val = Vl.zero) ∧ (m.kind ≠ 3 → m.add = 0#64) := by
  unfold Msg.ok at h
  simp only [Bool.and_eq_true, Bool.or_eq_true, decide_eq_true_eq] at h
  obtain ⟨⟨⟨⟨h1, h2⟩, h3⟩, h4⟩, h5⟩ := h
  by_cases c : m.kind = 1
  · rw [if_pos c] at h4
    exact ⟨h1, h2, h3, h4, fun n => absurd c n, fun n => h5.resolve_left n⟩
  · rw [if_neg c, decide_eq_true_eq] at h4
    exact ⟨h1, h2, h3, by rw [h4]; exact Vl.zero_ok, fun _ => h4, fun n => h5.resolve_left n⟩
theorem Key.n_le {k : Key} (h : k.ok = true) : 0 ≤ k.n ∧ k.n ≤ 8 := by have := (Key.ok_iff k).1 h; exact ⟨this.1, this.2.1⟩
theorem Vl.n_le {k : Vl} (h : k.ok = true) : 0 ≤ k.n ∧ k.n ≤ 16 := by have := (Vl.ok_iff k).1 h; exact ⟨this.1, this.2.1⟩
def Msg.size (m : Msg) : Int := if m.ok then (if m.kind = 1 then 11 + m.key.n + m.val.n else if m.kind = 3 then 18 + m.key.n else 10 + m.key.n) else 0
def applyM (v : Vl) (there : Bool) (m : Msg) : Vl × Bool :=
  if m.kind = 1 then (m.val, true) else if m.kind = 2 then (Vl.zero, false) else if there then (vplus v m.add, true) else (fromN m.add, true)
def composeM (o n : Msg) : Msg :=
  if n.kind ≠ 3 ∨ o.key ≠ n.key then n else
  if o.kind = 1 then ⟨1, n.seq, n.key, vplus o.val n.add, 0#64⟩ else
  if o.kind = 2 then ⟨1, n.seq, n.key, fromN n.add, 0#64⟩ else
  ⟨3, n.seq, n.key, Vl.zero, o.add + n.add⟩
set_option maxRecDepth 100000 in
theorem vplus_zero (n : BitVec 64) : vplus Vl.zero n = fromN n := by
  unfold vplus
  rw [show numOf Vl.zero = 0#64 from by decide]
  simp
/-! ### contracts -/
theorem a_reffrom (n : BitVec 64) : AFn Try.prog 65 [u64A n] (fromN n).av := fun U w vs h => by
  obtain ⟨v1, us, rfl, h1, h⟩ := rdp_one h
  obtain rfl := rdp_nil h
  rw [u64_arg h1]
  exact ofIs (reffrom_any n w) fun w' => dVl.rdv.2 rfl
section
variable {E : Env} {nt : Nat} {ops : Array Oper} {T : Nat → Option AV} {H : Hp} {d : Option Nat} {ty : TypeId} {pos : String} {af : Array Edge} {gd : Option (Nat × Bool)}
theorem o_addu {t t' : TypeId} {x y : Operand} {a b : BitVec 64} (hd : dOk nt d = true) (hx : evalO T x = some (.v (.int .u64 (D64 a)))) (hy : evalO T y = some (.v (.int .u64 (D64 b)))) : OpOK Try.prog E nt ops ⟨d, .binOp .add t x y t', ty, pos, af, gd⟩ T H [] ⟨.v (.int .u64 (D64 (a + b))), []⟩ := ok_add hd hx hy (D64_add a b)
set_option maxRecDepth 100000 in
theorem z_bld0 {t n : Nat} {fs : List (Nat × Nat × Bool)} {zs : List AV} {z : AV} (hz : zeroT t = some z) (hze : z = .agg n zs) (hd : dOk nt d = true) (hs : tabT.ti t = some (.st n fs)) (hp : placesOk 0 zs fs = true) :
    OpOK Try.prog E nt ops ⟨d, .build t #[], ty, pos, af, gd⟩ T H [] ⟨z, []⟩ := by
  subst hze
  exact ok_build tabT (l := []) (vs := []) hd hs (zeroT_ok hz) rfl rfl hp
end
attribute [local irreducible] OpOK AWops AW CondB Go2 AFn thenA inBlockA noGotoA orderOk wantedA
set_option maxRecDepth 100000 in
set_option maxHeartbeats 4000000 in
theorem a_ref05check (m : Msg) : AFn Try.prog 64 [m.av] (boolA m.ok) := by
  refine AFn_intro Try.func64 rfl Try.ntmps64 rfl (by simp) [_] rfl fun E hE => ?_
  have c1 := acall Try.func61 (a_refkeycheck m.key) (by decide +kernel) (by decide +kernel)
  have c2 := acall Try.func62 (a_refvlcheck m.val) (by decide +kernel) (by decide +kernel)
  by_cases h1 : m.kind < 1
  · rw [Msg.no1 h1]
    refine wL ?_
    exact fin ⟨res_of rfl rfl rfl, trivial⟩
  by_cases h3 : 3 < m.kind
  · rw [Msg.no3 h3]
    refine wL ?_
    exact fin ⟨res_of rfl rfl rfl, trivial⟩
  cases hk : m.key.ok with
  | false =>
    rw [Msg.nok hk]
    rw [hk] at c1
    have k' : (!false) = true := rfl
    refine wL ?_
    exact fin ⟨res_of rfl rfl rfl, trivial⟩
  | true =>
    rw [hk] at c1
    have k' : (!true) = false := rfl
    have k'' : (!false) = true := rfl
    by_cases p : m.kind = 1
    · have p' : ¬ m.kind ≠ 1 := fun h => h p
      cases hv : m.val.ok with
      | false =>
        rw [Msg.nov p hv]
        rw [hv] at c2
        refine wL ?_
        exact fin ⟨res_of rfl rfl rfl, trivial⟩
      | true =>
        rw [Msg.okPut p hk hv]
        rw [hv] at c2
        have p3 : ¬ m.kind = 3 := by omega
        refine wL ?_
        exact fin ⟨res_of rfl rfl rfl, trivial⟩
    · have p' : m.kind ≠ 1 := p
      by_cases z : m.val = Vl.zero
      · have z' : ¬ m.val ≠ Vl.zero := fun h => h z
        by_cases p3 : m.kind = 3
        · rw [Msg.okAdd p3 hk z]
          refine wL ?_
          exact fin ⟨res_of rfl rfl rfl, trivial⟩
        · rw [Msg.okDel (by omega) hk z]
          refine wL ?_
          exact fin ⟨res_of rfl rfl rfl, trivial⟩
      · have z' : m.val ≠ Vl.zero := z
        rw [Msg.noz p z]
        refine wL ?_
        exact fin ⟨res_of rfl rfl rfl, trivial⟩
set_option maxRecDepth 100000 in
set_option maxHeartbeats 4000000 in
theorem a_ref05bytes (m : Msg) : AFn Try.prog 51 [m.av] (intA m.size) := by
  refine AFn_intro Try.func51 rfl Try.ntmps51 rfl (by simp) [_] rfl fun E hE => ?_
  have c1 := acall Try.func64 (a_ref05check m) (by decide +kernel) (by decide +kernel)
  unfold Msg.size
  cases hk : m.ok with
  | false =>
    rw [if_neg (by simp)]
    rw [hk] at c1
    have k' : (!false) = true := rfl
    refine wL ?_
    exact fin ⟨res_of rfl rfl rfl, trivial⟩
  | true =>
    rw [if_pos rfl]
    rw [hk] at c1
    have k' : (!true) = false := rfl
    obtain ⟨q1, q2, q3, q4, _⟩ := Msg.spec hk
    have n1 := Key.n_le q3
    have n2 := Vl.n_le q4
    by_cases p : m.kind = 1
    · rw [if_pos p]
      refine wL ?_
      exact fin ⟨res_of rfl rfl rfl, trivial⟩
    · rw [if_neg p]
      by_cases p3 : m.kind = 3
      · rw [if_pos p3]
        refine wL ?_
        exact fin ⟨res_of rfl rfl rfl, trivial⟩
      · rw [if_neg p3]
        refine wL ?_
        exact fin ⟨res_of rfl rfl rfl, trivial⟩
set_option maxRecDepth 100000 in
set_option maxHeartbeats 4000000 in
theorem a_refapply (v : Vl) (b : Bool) (m : Msg) : AFn Try.prog 54 [v.av, boolA b, m.av] (.tup [(applyM v b m).1.av, boolA (applyM v b m).2]) := by
  refine AFn_intro Try.func54 rfl Try.ntmps54 rfl (by simp) [_, _] rfl fun E hE => ?_
  have c1 := acall Try.func65 (a_reffrom m.add) (by decide +kernel) (by decide +kernel)
  have c2 := acall Try.func66 (a_refplus v m.add) (by decide +kernel) (by decide +kernel)
  unfold applyM
  by_cases p : m.kind = 1
  · rw [if_pos p]
    refine wL ?_
    exact fin ⟨res_var rfl rfl rfl rfl, res_of rfl rfl rfl, trivial⟩
  rw [if_neg p]
  by_cases p2 : m.kind = 2
  · rw [if_pos p2]
    refine wL ?_
    exact fin ⟨res_var rfl rfl rfl rfl, res_of rfl rfl rfl, trivial⟩
  rw [if_neg p2]
  cases b with
  | true =>
    have k' : (!true) = false := rfl
    refine wL ?_
    exact fin ⟨res_var rfl rfl rfl rfl, res_of rfl rfl rfl, trivial⟩
  | false =>
    have k' : (!false) = true := rfl
    refine wL ?_
    exact fin ⟨res_var rfl rfl rfl rfl, res_of rfl rfl rfl, trivial⟩
set_option maxRecDepth 100000 in
set_option maxHeartbeats 4000000 in
theorem a_refcompose (o n : Msg) : AFn Try.prog 68 [o.av, n.av] (composeM o n).av := by
  refine AFn_intro Try.func68 rfl Try.ntmps68 rfl (by simp) [_] rfl fun E hE => ?_
  have c1 := acall Try.func65 (a_reffrom n.add) (by decide +kernel) (by decide +kernel)
  have c2 := acall Try.func66 (a_refplus o.val n.add) (by decide +kernel) (by decide +kernel)
  unfold composeM
  by_cases p : n.kind ≠ 3
  · rw [if_pos (.inl p)]
    refine wL ?_
    exact fin ⟨res_var rfl rfl rfl rfl, trivial⟩
  by_cases q : o.key ≠ n.key
  · rw [if_pos (.inr q)]
    refine wL ?_
    exact fin ⟨res_var rfl rfl rfl rfl, trivial⟩
  rw [if_neg (by simp only [not_or]; exact ⟨p, q⟩)]
  by_cases p1 : o.kind = 1
  · rw [if_pos p1]
    refine wL ?_
    exact fin ⟨res_var rfl rfl rfl rfl, trivial⟩
  rw [if_neg p1]
  by_cases p2 : o.kind = 2
  · rw [if_pos p2]
    refine wL ?_
    exact fin ⟨res_var rfl rfl rfl rfl, trivial⟩
  rw [if_neg p2]
  refine wL ?_
  exact fin ⟨res_var rfl rfl rfl rfl, trivial⟩
end Go.Proofs.Ytkpjkfjlpiidbaa

namespace Go.Proofs.Ytkpjkfjlpiidbaa
open Go Go.RowKit
set_option linter.unusedVariables false
set_option linter.unusedSimpArgs false
set_option maxRecDepth 100000

def bSum (l : List Msg) : Int := (l.map Msg.size).sum
def bfAt (k : Key) (l : List Msg) : Nat := l.countP fun e => decide (e.key.rank < k.rank)
def BSrt (l : List Msg) : Prop := l.Pairwise fun a b => a.key.rank < b.key.rank
structure Bf (l : List Msg) : Prop where
  ok : ∀ m ∈ l, m.ok = true
  srt : BSrt l
/-- a key's message -/
def bfGet (k : Key) (l : List Msg) : Option Msg := l.find? fun e => decide (e.key = k)
def newM (m : Msg) (o : Option Msg) : Msg := match o with
  | some x => composeM x m
  | none => m
def bfSet (l : List Msg) (m : Msg) : List Msg := l.filter (fun e => decide (e.key.rank < m.key.rank)) ++ ([m] ++ l.filter (fun e => decide (m.key.rank < e.key.rank)))
/-- the buffer with a message more -/
def bfAdd (l : List Msg) (m : Msg) : List Msg := bfSet l (newM m (bfGet m.key l))
def bfAll (l ms : List Msg) : List Msg := ms.foldl bfAdd l
theorem composeM_key (o n : Msg) : (composeM o n).key = n.key := by
  unfold composeM
  split
  · rfl
  · split
    · rfl
    · split <;> rfl
theorem newM_key (m : Msg) (o : Option Msg) : (newM m o).key = m.key := by
  cases o with
  | none => rfl
  | some x => exact composeM_key x m

theorem bfAt_le (k : Key) (l : List Msg) : bfAt k l ≤ l.length := List.countP_le_length
theorem bfAt_cons (k : Key) (e : Msg) (l : List Msg) : bfAt k (e :: l) = bfAt k l + if e.key.rank < k.rank then 1 else 0 := by
  unfold bfAt
  rw [List.countP_cons]
  simp
theorem BSrt.tail {e : Msg} {l : List Msg} (h : BSrt (e :: l)) : BSrt l := (List.pairwise_cons.1 h).2
theorem BSrt.head {e : Msg} {l : List Msg} (h : BSrt (e :: l)) : ∀ b ∈ l, e.key.rank < b.key.rank := (List.pairwise_cons.1 h).1
theorem bfAt_zero {k : Key} {l : List Msg} (h : ∀ b ∈ l, k.rank ≤ b.key.rank) : bfAt k l = 0 := by
  unfold bfAt
  rw [List.countP_eq_zero]
  intro b hb
  have := h b hb
  simp; omega
theorem bfAt_iff {k : Key} {l : List Msg} (h : BSrt l) : ∀ i (hi : i < l.length), (i < bfAt k l ↔ l[i].key.rank < k.rank) := by
  induction l with
  | nil => intro i hi; cases hi
  | cons e l ih =>
    intro i hi
    rw [bfAt_cons]
    by_cases c : e.key.rank < k.rank
    · rw [if_pos c]
      cases i with
      | zero => simp [c]
      | succ i => simpa using ih h.tail i (by simpa using hi)
    · rw [if_neg c]
      have hz : bfAt k l = 0 := bfAt_zero fun b hb => by have := h.head b hb; omega
      rw [hz]
      cases i with
      | zero => simp; omega
      | succ i =>
        have hi' : i < l.length := by simpa using hi
        have := h.head l[i] (List.getElem_mem hi')
        simp; omega
theorem BSrt.lt {l : List Msg} (h : BSrt l) {i j : Nat} (hi : i < l.length) (hj : j < l.length) (hij : i < j) : l[i].key.rank < l[j].key.rank := List.pairwise_iff_getElem.1 h i j hi hj hij
theorem BSrt.inj {l : List Msg} (h : BSrt l) {a b : Msg} (ha : a ∈ l) (hb : b ∈ l) (he : a.key.rank = b.key.rank) : a = b := by
  obtain ⟨i, hi, rfl⟩ := List.mem_iff_getElem.1 ha
  obtain ⟨j, hj, rfl⟩ := List.mem_iff_getElem.1 hb
  rcases Nat.lt_trichotomy i j with c | c | c
  · have := h.lt hi hj c; omega
  · subst c; rfl
  · have := h.lt hj hi c; omega
theorem bfGet_iff {l : List Msg} (h : BSrt l) (k : Key) (m : Msg) : bfGet k l = some m ↔ m ∈ l ∧ m.key = k := by
  unfold bfGet
  constructor
  · intro hf
    have h4 := List.find?_some hf
    rw [decide_eq_true_eq] at h4
    exact ⟨List.mem_of_find?_eq_some hf, h4⟩
  · rintro ⟨hm, rfl⟩
    cases hf : l.find? (fun e => decide (e.key = m.key)) with
    | none =>
      rw [List.find?_eq_none] at hf
      have := hf _ hm
      simp at this
    | some e =>
      have h3 := List.mem_of_find?_eq_some hf
      have h4 := List.find?_some hf
      rw [decide_eq_true_eq] at h4
      rw [h.inj h3 hm (by rw [h4])]
theorem bsrt_ext : ∀ {l1 l2 : List Msg}, BSrt l1 → BSrt l2 → (∀ e, e ∈ l1 ↔ e ∈ l2) → l1 = l2
  | [], l2, _, _, h => by
    cases l2 with
    | nil => rfl
    | cons b l => exact absurd ((h b).2 (by simp)) (by simp)
  | a :: l1, [], _, _, h => absurd ((h a).1 (by simp)) (by simp)
  | a :: l1, b :: l2, h1, h2, h => by
    have hab : a = b := by
      have m1 := (h a).1 (by simp)
      have m2 := (h b).2 (by simp)
      rcases List.mem_cons.1 m1 with m1 | m1
      · exact m1
      · rcases List.mem_cons.1 m2 with m2 | m2
        · exact m2.symm
        · have := h2.head a m1
          have := h1.head b m2
          omega
    subst hab
    rw [bsrt_ext h1.tail h2.tail (fun e => ?_)]
    constructor
    · intro he
      rcases List.mem_cons.1 ((h e).1 (List.mem_cons_of_mem _ he)) with c | c
      · subst c; have := h1.head e he; omega
      · exact c
    · intro he
      rcases List.mem_cons.1 ((h e).2 (List.mem_cons_of_mem _ he)) with c | c
      · subst c; have := h2.head e he; omega
      · exact c
theorem bf_ext {l1 l2 : List Msg} (h1 : Bf l1) (h2 : Bf l2) (h : ∀ k, k.ok = true → bfGet k l1 = bfGet k l2) : l1 = l2 := by
  refine bsrt_ext h1.srt h2.srt fun e => ?_
  have a := bfGet_iff h1.srt e.key e
  have b := bfGet_iff h2.srt e.key e
  constructor
  · intro he
    exact (b.1 ((h _ (Msg.spec (h1.ok e he)).2.2.1) ▸ a.2 ⟨he, rfl⟩)).1
  · intro he
    exact (a.1 ((h _ (Msg.spec (h2.ok e he)).2.2.1).symm ▸ b.2 ⟨he, rfl⟩)).1
theorem bget_hit {l : List Msg} (h : BSrt l) {k : Key} {i : Nat} (hi : i < l.length) (he : l[i].key = k) : bfGet k l = some l[i] := by
  rw [bfGet_iff h]
  exact ⟨List.getElem_mem hi, he⟩
theorem bat_hit {l : List Msg} (h : BSrt l) {k : Key} {i : Nat} (hi : i < l.length) (he : l[i].key.rank = k.rank) : bfAt k l = i := by
  have h1 := (bfAt_iff (k := k) h i hi)
  have h3 := bfAt_le k l
  rcases Nat.lt_trichotomy (bfAt k l) i with c | c | c
  · have h4 := (bfAt_iff (k := k) h (bfAt k l) (by omega))
    have := h.lt (by omega) hi c
    omega
  · exact c
  · omega
theorem bget_no {l : List Msg} (h : BSrt l) {k : Key} (hn : ∀ (hi : bfAt k l < l.length), l[bfAt k l].key ≠ k) : bfGet k l = none := by
  cases hg : bfGet k l with
  | none => rfl
  | some v =>
    rw [bfGet_iff h] at hg
    obtain ⟨i, hi, he⟩ := List.mem_iff_getElem.1 hg.1
    have := bat_hit h (k := k) hi (by rw [he, hg.2])
    subst this
    exact absurd (by rw [he, hg.2]) (hn hi)
theorem bget_none {l : List Msg} {k : Key} (hn : ∀ i (hi : i < l.length), l[i].key ≠ k) : bfGet k l = none := by
  unfold bfGet
  rw [List.find?_eq_none]
  intro e he
  obtain ⟨i, hi, rfl⟩ := List.mem_iff_getElem.1 he
  simpa using hn i hi
theorem bflt_lo {k : Key} {l : List Msg} (h : BSrt l) : l.filter (fun e => decide (e.key.rank < k.rank)) = l.take (bfAt k l) := by
  induction l with
  | nil => rfl
  | cons e l ih =>
    rw [bfAt_cons]
    by_cases c : e.key.rank < k.rank
    · rw [if_pos c, List.filter_cons_of_pos (by simpa using c), List.take_succ_cons, ih h.tail]
    · rw [if_neg c, List.filter_cons_of_neg (by simpa using c)]
      have hz : bfAt k l = 0 := bfAt_zero fun b hb => by have := h.head b hb; omega
      rw [ih h.tail, hz]
      rfl
theorem bflt_all {k : Key} {l : List Msg} (h : ∀ b ∈ l, k.rank < b.key.rank) : l.filter (fun e => decide (k.rank < e.key.rank)) = l := by
  rw [List.filter_eq_self]
  intro b hb
  simpa using h b hb
theorem bflt_hi {k : Key} {l : List Msg} (h : BSrt l) : l.filter (fun e => decide (k.rank < e.key.rank)) = l.drop (bfAt k l + if (∃ hi : bfAt k l < l.length, l[bfAt k l].key.rank = k.rank) then 1 else 0) := by
  induction l with
  | nil => simp
  | cons e l ih =>
    by_cases c : e.key.rank < k.rank
    · have e1 : bfAt k (e :: l) = bfAt k l + 1 := by rw [bfAt_cons, if_pos c]
      have e2 : (∃ hi : bfAt k (e :: l) < (e :: l).length, (e :: l)[bfAt k (e :: l)].key.rank = k.rank) ↔ (∃ hi : bfAt k l < l.length, l[bfAt k l].key.rank = k.rank) := by
        simp only [e1]
        constructor
        · rintro ⟨h1, h2⟩; exact ⟨by simpa using h1, by simpa using h2⟩
        · rintro ⟨h1, h2⟩; exact ⟨by simpa using h1, by simpa using h2⟩
      have ih' := ih h.tail
      rw [List.filter_cons_of_neg (by simp; omega), ih']
      by_cases g : ∃ hi : bfAt k l < l.length, l[bfAt k l].key.rank = k.rank
      · rw [if_pos g, if_pos (e2.2 g), e1, show bfAt k l + 1 + 1 = (bfAt k l + 1) + 1 from rfl, List.drop_succ_cons]
      · rw [if_neg g, if_neg (fun x => g (e2.1 x)), e1, Nat.add_zero, Nat.add_zero, List.drop_succ_cons]
    · have hz : bfAt k l = 0 := bfAt_zero fun b hb => by have := h.head b hb; omega
      have e1 : bfAt k (e :: l) = 0 := by rw [bfAt_cons, if_neg c, hz]
      rw [e1]
      by_cases d : e.key.rank = k.rank
      · rw [if_pos ⟨by simp [e1], by simpa [e1] using d⟩, List.filter_cons_of_neg (by simp; omega), bflt_all (fun b hb => by have := h.head b hb; omega)]
        rfl
      · rw [if_neg (fun ⟨_, h2⟩ => d (by simpa [e1] using h2)), bflt_all (fun b hb => by
          rcases List.mem_cons.1 hb with rfl | hb
          · omega
          · have := h.head b hb; omega)]
        rfl
theorem add_hit {l : List Msg} (h : BSrt l) (m : Msg) (hi : bfAt m.key l < l.length) (he : l[bfAt m.key l].key = m.key) : bfAdd l m = l.take (bfAt m.key l) ++ ([composeM l[bfAt m.key l] m] ++ l.drop (bfAt m.key l + 1)) := by
  unfold bfAdd bfSet
  rw [newM_key, bget_hit h hi he, bflt_lo h, bflt_hi h, if_pos ⟨hi, by rw [he]⟩]
  rfl
theorem add_no {l : List Msg} (h : Bf l) (m : Msg) (hk : m.key.ok = true) (hn : ∀ (hi : bfAt m.key l < l.length), l[bfAt m.key l].key ≠ m.key) : bfAdd l m = l.take (bfAt m.key l) ++ ([m] ++ l.drop (bfAt m.key l)) := by
  unfold bfAdd bfSet
  rw [newM_key, bget_no h.srt hn, bflt_lo h.srt, bflt_hi h.srt, if_neg]
  · rfl
  · rintro ⟨hi, h2⟩
    exact hn hi ((rank_inj (Msg.spec (h.ok _ (List.getElem_mem hi))).2.2.1 hk).1 h2)
theorem mem_bset {l : List Msg} {m e : Msg} : e ∈ bfSet l m ↔ (e ∈ l ∧ e.key.rank ≠ m.key.rank) ∨ e = m := by
  unfold bfSet
  simp only [List.mem_append, List.mem_filter, decide_eq_true_eq, List.mem_singleton]
  constructor
  · rintro (⟨h1, h2⟩ | h1 | ⟨h1, h2⟩)
    · exact .inl ⟨h1, by omega⟩
    · exact .inr h1
    · exact .inl ⟨h1, by omega⟩
  · rintro (⟨h1, h2⟩ | h1)
    · rcases Nat.lt_or_gt_of_ne h2 with c | c
      · exact .inl ⟨h1, c⟩
      · exact .inr (.inr ⟨h1, c⟩)
    · exact .inr (.inl h1)
theorem srt_bset {l : List Msg} (h : BSrt l) (m : Msg) : BSrt (bfSet l m) := by
  unfold BSrt bfSet
  rw [List.pairwise_append, List.pairwise_append]
  refine ⟨h.sublist List.filter_sublist, ⟨List.pairwise_singleton .., h.sublist List.filter_sublist, fun a ha b hb => ?_⟩, fun a ha b hb => ?_⟩
  · rw [List.mem_singleton.1 ha]
    simpa using (List.mem_filter.1 hb).2
  · have h1 : a.key.rank < m.key.rank := by simpa using (List.mem_filter.1 ha).2
    rcases List.mem_append.1 hb with hb | hb
    · rw [List.mem_singleton.1 hb]; exact h1
    · have h2 : m.key.rank < b.key.rank := by simpa using (List.mem_filter.1 hb).2
      omega
theorem bf_set {l : List Msg} (h : Bf l) {m : Msg} (hm : m.ok = true) : Bf (bfSet l m) := by
  refine ⟨fun e he => ?_, srt_bset h.srt m⟩
  rcases mem_bset.1 he with ⟨h1, _⟩ | rfl
  · exact h.ok e h1
  · exact hm
theorem get_bset {l : List Msg} (h : Bf l) {m : Msg} (hm : m.ok = true) {x : Key} (hx : x.ok = true) : bfGet x (bfSet l m) = if x = m.key then some m else bfGet x l := by
  apply Option.ext
  intro v
  rw [bfGet_iff (srt_bset h.srt m), mem_bset]
  by_cases c : x = m.key
  · rw [if_pos c]; subst c
    simp only [Option.some.injEq]
    constructor
    · rintro ⟨h1 | h1, h2⟩
      · rw [h2] at h1; exact absurd rfl h1.2
      · exact h1.symm
    · intro h1; subst h1; exact ⟨.inr rfl, rfl⟩
  · rw [if_neg c, bfGet_iff h.srt]
    have : x.rank ≠ m.key.rank := fun e => c ((rank_inj hx (Msg.spec hm).2.2.1).1 e)
    constructor
    · rintro ⟨h1 | h1, h2⟩
      · exact ⟨h1.1, h2⟩
      · rw [h1] at h2; exact absurd h2.symm c
    · rintro ⟨h1, h2⟩
      exact ⟨.inl ⟨h1, by rw [h2]; exact this⟩, h2⟩
theorem vplus_ok' (v : Vl) (n : BitVec 64) : (vplus v n).ok = true := fromN_ok _
theorem Msg.mkOk {k : Int} {s : BitVec 64} {key : Key} {v : Vl} {n : BitVec 64} (h1 : 1 ≤ k ∧ k ≤ 3) (hk : key.ok = true) (hv : if k = 1 then v.ok = true else v = Vl.zero) (hn : k ≠ 3 → n = 0#64) : (⟨k, s, key, v, n⟩ : Msg).ok = true := by
  unfold Msg.ok
  by_cases c : k = 1
  · rw [if_pos c] at hv
    simp [c, hk, hv, hn (by omega)]
  · rw [if_neg c] at hv
    by_cases d : k = 3
    · simp [d, hk, hv]
    · simp [c, d, hk, hv, hn d, h1.1, h1.2]
theorem composeM_ok {o n : Msg} (ho : o.ok = true) (hn : n.ok = true) : (composeM o n).ok = true := by
  have hs := Msg.spec ho
  have hs2 := Msg.spec hn
  unfold composeM
  split
  · exact hn
  · split
    · exact Msg.mkOk ⟨by omega, by omega⟩ hs2.2.2.1 (by rw [if_pos rfl]; exact vplus_ok' _ _) (fun _ => rfl)
    · split
      · exact Msg.mkOk ⟨by omega, by omega⟩ hs2.2.2.1 (by rw [if_pos rfl]; exact fromN_ok _) (fun _ => rfl)
      · exact Msg.mkOk ⟨by omega, by omega⟩ hs2.2.2.1 (by rw [if_neg (by omega)]) (fun h => absurd rfl h)
theorem newM_ok {m : Msg} (hm : m.ok = true) {o : Option Msg} (ho : ∀ x, o = some x → x.ok = true) : (newM m o).ok = true := by
  cases o with
  | none => exact hm
  | some x => exact composeM_ok (ho x rfl) hm
theorem bget_ok {l : List Msg} (h : Bf l) (k : Key) : ∀ x, bfGet k l = some x → x.ok = true := fun x hx => h.ok _ ((bfGet_iff h.srt k x).1 hx).1
theorem bf_add {l : List Msg} (h : Bf l) {m : Msg} (hm : m.ok = true) : Bf (bfAdd l m) := bf_set h (newM_ok hm (bget_ok h _))
theorem get_add {l : List Msg} (h : Bf l) {m : Msg} (hm : m.ok = true) {x : Key} (hx : x.ok = true) : bfGet x (bfAdd l m) = if x = m.key then some (newM m (bfGet m.key l)) else bfGet x l := by
  unfold bfAdd
  rw [get_bset h (newM_ok hm (bget_ok h _)) hx, newM_key]
theorem bf_all {ms : List Msg} : ∀ {l : List Msg}, Bf l → (∀ m ∈ ms, m.ok = true) → Bf (bfAll l ms) := by
  induction ms with
  | nil => intro l h _; exact h
  | cons m ms ih => intro l h hm; exact ih (bf_add h (hm m (by simp))) (fun x hx => hm x (List.mem_cons_of_mem _ hx))
theorem bf_nil : Bf [] := ⟨(fun e h => by cases h), List.Pairwise.nil⟩
theorem bset_len {l : List Msg} (m : Msg) : (bfSet l m).length ≤ l.length + 1 := by
  unfold bfSet
  have h2 : (l.filter (fun e => decide (e.key.rank < m.key.rank))).length + (l.filter (fun e => decide (m.key.rank < e.key.rank))).length ≤ l.length := by
    induction l with
    | nil => simp
    | cons e l ih =>
      simp only [List.filter_cons]
      split <;> split <;> simp_all <;> omega
  simp only [List.length_append, List.length_singleton]
  omega
theorem add_len (l : List Msg) (m : Msg) : (bfAdd l m).length ≤ l.length + 1 := bset_len _
theorem ball_len : ∀ (ms : List Msg) (l : List Msg), (bfAll l ms).length ≤ l.length + ms.length
  | [], l => by simp [bfAll]
  | m :: ms, l => by
    have h1 := ball_len ms (bfAdd l m)
    have h2 := add_len l m
    simp only [bfAll, List.foldl_cons, List.length_cons] at h1 ⊢
    omega
theorem bSum_append (a b : List Msg) : bSum (a ++ b) = bSum a + bSum b := by simp [bSum]
theorem bSum_snoc (l : List Msg) (j : Nat) (h : j < l.length) : bSum (l.take (j + 1)) = bSum (l.take j) + l[j].size := by
  rw [← List.take_append_getElem h, bSum_append]
  simp [bSum]
theorem Msg.size_le (m : Msg) : 0 ≤ m.size ∧ m.size ≤ 35 := by
  unfold Msg.size
  cases h : m.ok with
  | false => simp
  | true =>
    have hs := Msg.spec h
    have h1 := Key.n_le hs.2.2.1
    have h2 := Vl.n_le hs.2.2.2.1
    rw [if_pos rfl]
    split
    · omega
    · split <;> omega
theorem bSum_le : ∀ (l : List Msg), 0 ≤ bSum l ∧ bSum l ≤ 35 * (l.length : Int)
  | [] => by simp [bSum]
  | e :: l => by
    have h1 := bSum_le l
    have h2 := e.size_le
    have h3 : bSum (e :: l) = e.size + bSum l := by simp [bSum]
    rw [h3]
    simp only [List.length_cons]
    omega
end Go.Proofs.Ytkpjkfjlpiidbaa

namespace Go.Proofs.Ytkpjkfjlpiidbaa
open Go Go.RowKit
set_option linter.unusedVariables false
set_option linter.unusedSimpArgs false
set_option maxRecDepth 100000

def bfHit (k : Key) (l : List Msg) : Bool := match l[bfAt k l]? with
  | some e => decide (e.key = k)
  | none => false
theorem bfHit_at {k : Key} {l : List Msg} (hi : bfAt k l < l.length) : bfHit k l = decide (l[bfAt k l].key = k) := by
  unfold bfHit; rw [List.getElem?_eq_getElem hi]
theorem bfHit_end {k : Key} {l : List Msg} (hi : ¬ bfAt k l < l.length) : bfHit k l = false := by
  unfold bfHit; rw [List.getElem?_eq_none (by omega)]
attribute [local irreducible] OpOK AWops AW CondB Go2 AFn thenA inBlockA noGotoA orderOk wantedA
set_option maxRecDepth 100000 in
set_option maxHeartbeats 4000000 in
theorem a_place1 (l : List Msg) (k : Key) (i : Nat) (h : i < l.length) : AFn Try.prog 71 [intA i, .ref (msgsA l), .ref k.av] (boolA (decide (0 ≤ keyCmp l[i].key k))) := by
  refine AFn_intro Try.func71 rfl Try.ntmps71 rfl (by simp) [_] rfl fun E hE => ?_
  have c1 := acall Try.func72 (a_keycmp l[i].key k) (by decide +kernel) (by decide +kernel)
  refine wF ?_
  exact fin ⟨res_of rfl rfl rfl, trivial⟩
set_option maxRecDepth 100000 in
set_option maxHeartbeats 4000000 in
theorem a_search (l : List Msg) (k : Key) (h : BSrt l) (hl : l.length ≤ 1000000000) : AFn Try.prog 70 [intA l.length, .fn (.func 71) [] [.ref (msgsA l), .ref k.av]] (intA (bfAt k l : Nat)) := by
  refine AFn_intro Try.func70 rfl Try.ntmps70 rfl (by simp) [_] rfl fun E hE => ?_
  have hle := bfAt_le k l
  have hnt : (!true) = false := rfl
  have hnf : (!false) = true := rfl
  refine wF ?_
  refine AW_loopI (fun j : Nat × Nat => ⟨[(1, .fn (.func 71) [] [.ref (msgsA l), .ref k.av]), (5, intA j.1), (6, intA j.2)], []⟩) (fun j => j.1 ≤ bfAt k l ∧ bfAt k l ≤ j.2 ∧ j.2 ≤ l.length) (fun j => j.2 - j.1) (0, l.length) ⟨Nat.zero_le _, hle, Nat.le_refl _⟩ (by (refine Go2.sub ⟨?_, ?_, ?_⟩ <;> repeat' (first | exact True.intro | rfl | apply And.intro))) (fun j hj => ?_)
  obtain ⟨lo, hi⟩ := j
  obtain ⟨j1, j2, j3⟩ := hj
  dsimp only at j1 j2 j3 ⊢
  by_cases c : lo < hi
  · have hm : (lo + hi) / 2 < l.length := by omega
    have hit := bfAt_iff (k := k) h _ hm
    have c0 := a_place1 l k _ hm
    by_cases q : 0 ≤ keyCmp l[(lo + hi) / 2].key k
    · have q' := q
      rw [keyCmp_rank, sgn_ge] at q'
      rw [decide_eq_true q] at c0
      have c1 := acall Try.func71 c0 (by decide +kernel) (by decide +kernel)
      refine wF ?_
      refine ⟨(lo, (lo + hi) / 2), ⟨j1, by dsimp only; omega, by dsimp only; omega⟩, by dsimp only; omega, ?_⟩
      (refine Go2.sub ⟨?_, ?_, ?_⟩ <;> repeat' (first | exact True.intro | rfl | apply And.intro))
    · have q' := q
      rw [keyCmp_rank, sgn_ge] at q'
      rw [decide_eq_false q] at c0
      have c1 := acall Try.func71 c0 (by decide +kernel) (by decide +kernel)
      refine wF ?_
      refine ⟨((lo + hi) / 2 + 1, hi), ⟨by dsimp only; omega, j2, j3⟩, by dsimp only; omega, ?_⟩
      (refine Go2.sub ⟨?_, ?_, ?_⟩ <;> repeat' (first | exact True.intro | rfl | apply And.intro))
  · obtain rfl : lo = bfAt k l := by omega
    refine wF ?_
    exact fin ⟨res_of rfl rfl rfl, trivial⟩
set_option maxRecDepth 100000 in
set_option maxHeartbeats 4000000 in
theorem a_bufplace (l : List Msg) (k : Key) (h : BSrt l) (hl : l.length ≤ 1000000000) : AFn Try.prog 60 [msgsA l, k.av] (.tup [intA (bfAt k l : Nat), boolA (bfHit k l)]) := by
  refine AFn_intro Try.func60 rfl Try.ntmps60 rfl (by simp) [_, _] rfl fun E hE => ?_
  have hle := bfAt_le k l
  have c1 := acall Try.func70 (a_search l k h hl) (by decide +kernel) (by decide +kernel)
  repeat (first | refine Wend _ ?_ | refine AW_seq ?_ | refine AW_reg ?_ | refine AW_drw mixed ?_ | refine AW_block ?_ | refine AW_scope ?_ | refine thenA_n ?_ | refine blockA_n ?_ | refine blockA_h ?_ | refine scopeA_n ?_ | refine thenA_r ?_ | refine blockA_r ?_ | refine scopeA_r ?_ | refine thenA_e ?_ | refine scopeA_e ?_ | refine blockA_e rfl ?_ | refine AW_exit ?_ | refine AW_ret ?_ | refine AW_skip ?_ | refine AW_c rfl ?_ | with_reducible refine cb_t ?_ | with_reducible refine cb_f ?_ | with_reducible refine cb_yes (by first | assumption | omega) ?_ | with_reducible refine cb_no (by first | assumption | omega) ?_ | refine And.intro (by decide +kernel) ?_)
  iterate 4 (first | (apply Wv; (focus (first | exact step_ok rfl rfl | exact o_idx rfl rfl rfl rfl (by first | assumption | omega | decide) | exact o_idx3 rfl rfl rfl rfl (by first | assumption | omega | decide) | exact o_idx2 rfl rfl rfl rfl rfl (by first | assumption | omega | decide) | exact o_idxr rfl rfl rfl rfl rfl rfl | exact o_lenm rfl rfl rfl | exact o_len rfl rfl rfl | exact o_len0 rfl rfl rfl | exact o_lens rfl rfl rfl | exact o_lent rfl rfl | exact o_add1 rfl rfl rfl (by omega) | exact o_addn rfl rfl rfl (by omega) | exact o_add rfl rfl rfl (by omega) | exact o_sub1 rfl rfl rfl (by omega) | exact o_sub rfl rfl rfl (by omega) | exact o_mul rfl rfl rfl (by omega) | exact o_rem rfl rfl rfl (by omega) | exact ok_rem rfl rfl rfl (by decide) rfl | exact o_eqKey rfl rfl rfl | exact o_neKey rfl rfl rfl | exact o_eqVl rfl rfl rfl | exact o_neVl rfl rfl rfl | exact o_eqEnt rfl rfl rfl | exact o_neEnt rfl rfl rfl | exact o_eqMsg rfl rfl rfl | exact o_neMsg rfl rfl rfl | exact o_acall rfl rfl rfl rfl (by assumption) | exact o_minn rfl rfl rfl | exact o_cutl rfl rfl rfl rfl (by omega) | exact o_cuth rfl rfl rfl rfl (by omega) | exact o_cutl3 rfl rfl rfl rfl (by omega) | exact o_cuth3 rfl rfl rfl rfl (by omega) | exact o_cutl2 rfl rfl rfl rfl rfl (by omega) | exact o_cuth2 rfl rfl rfl rfl rfl (by omega) | exact o_cutlh2 rfl rfl rfl rfl rfl rfl rfl (by omega) (by omega) | exact e_bld rfl rfl rfl | exact e_bldk rfl rfl | exact z_bld0 rfl rfl rfl rfl rfl | exact z_bld rfl rfl rfl rfl rfl rfl rfl | exact o_addu rfl rfl rfl | exact o_mkfn rfl rfl rfl | exact o_callv rfl rfl rfl rfl rfl rfl (by assumption) | exact o_shr1 rfl rfl rfl | exact o_cviu ⟨_, Try.underlying3⟩ Try.underlying99 rfl rfl (by omega) | exact o_cvui ⟨_, Try.underlying99⟩ Try.underlying3 rfl rfl (by omega) | exact z_blda rfl rfl rfl rfl rfl rfl rfl rfl rfl | exact o_idxa rfl rfl rfl rfl rfl rfl | exact o_idxra rfl rfl rfl rfl rfl rfl rfl | exact o_quo2 rfl rfl rfl (by omega) | exact o_quo rfl rfl rfl (by omega))); (focus (first | exact want_n | exact want_g rfl (by with_reducible rfl)))) | (apply Wb; (focus (first | exact o_box rfl rfl rfl rfl | exact o_app rfl rfl rfl rfl rfl (by first | exact o_many rfl | exact o_one _ _ rfl) (by first | omega | (simp; omega) | simp) (by first | omega | (simp; omega) | simp) | exact o_appn rfl rfl rfl rfl rfl (by first | exact o_many rfl | exact o_one _ _ rfl) (by first | omega | (simp; omega) | simp) (by first | omega | (simp; omega) | simp) | exact o_app1 rfl rfl rfl rfl rfl (by first | exact o_many rfl | exact o_one _ _ rfl) (by exact rfl) (by first | omega | (simp; omega) | simp) (by first | omega | (simp; omega) | simp) | exact o_app0 rfl rfl rfl rfl rfl (by first | exact o_many rfl | exact o_one _ _ rfl) (by first | omega | (simp; omega) | simp) (by first | omega | (simp; omega) | simp) | exact o_bsl0 rfl rfl rfl | exact z_bsll rfl rfl rfl rfl rfl rfl rfl rfl rfl | exact z_alloc rfl rfl rfl)); (focus (first | exact want_n | exact want_g rfl (by with_reducible rfl)))) | (apply Ws; (focus (exact ok_store tabT (d := none) rfl rfl rfl rfl rfl rfl rfl rfl rfl rfl)); (focus (first | exact want_n | exact want_g rfl (by with_reducible rfl)))) | (refine Wskip (by first | exact want_f rfl (by with_reducible exact b_nt) | exact want_f rfl (by with_reducible exact b_nf) | exact want_t rfl) rfl ?_) | refine Wgt rfl rfl (by first | assumption | omega | exact rfl) ?_ | refine Wgf rfl rfl (by first | assumption | omega | exact rfl) ?_ | (refine Wgb rfl rfl (by with_reducible assumption) ?_) | (refine cb_is _ (by assumption) ?_))
  refine Wend _ ?_
  refine thenA_n ?_
  refine AW_go (Go2.froz hE 2 rfl) ?_
  refine AW_go (Go2.froz hE 3 rfl) ?_
  refine AW_go (Go2.ref 2 2 rfl rfl rfl) ?_
  refine AW_go (Go2.ref 3 3 rfl rfl rfl) ?_
  by_cases e : bfAt k l < l.length
  · rw [bfHit_at e]
    refine wF ?_
    exact fin ⟨res_of rfl rfl rfl, res_of rfl rfl rfl, trivial⟩
  · rw [bfHit_end e]
    refine wF ?_
    exact fin ⟨res_of rfl rfl rfl, res_of rfl rfl rfl, trivial⟩
end Go.Proofs.Ytkpjkfjlpiidbaa
