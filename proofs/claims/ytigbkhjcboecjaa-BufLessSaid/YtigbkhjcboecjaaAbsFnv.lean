/-
  AbsFnv: function values: variables that stay as they are as references, closures made and called; shifts.
-/
import Derived.Test.YtigbkhjcboecjaaAbsArr
namespace Go.Proofs.Ytigbkhjcboecjaa
open Go Go.RowKit
set_option linter.unusedVariables false
set_option linter.unusedSimpArgs false

/-- a pointer to a variable that stays as it is -/
theorem Go2.ref {E : Env} {nt : Nat} {T : List (Nat × AV)} {H : List (Nat × Bx)} (s g : Nat) {x : AV} (hs : look s T = some (.ptr g 0 [])) (hg : look g H = some (.froz x)) (hd : dataA x = true) : Go2 E nt ⟨T, H⟩ ⟨(s, .ref x) :: T, H⟩ := fun B a w r => by
  refine ⟨B, r.nt, r.df, fun s' y hx => ?_, r.box, r.non, r.inj, r.left⟩
  have eT : St.t ⟨(s, AV.ref x) :: T, H⟩ = upd (St.t ⟨T, H⟩) s (.ref x) := look_cons _ _ _
  rw [eT] at hx
  by_cases h : s' = s
  · subst h
    rw [upd_same] at hx
    injection hx with hx
    subst hx
    obtain ⟨v, h1, h2⟩ := r.tmp s' _ hs
    refine ⟨v, h1, ?_⟩
    have h3 := Rdv_one (by simp) h2 rfl
    simp only [Rd] at h3
    obtain ⟨_, b, k1, k4⟩ := h3
    injection k4 with k4
    subst k4
    obtain ⟨b', cs, q1, q2, q3, q4⟩ := r.box g _ hg
    rw [k1] at q1; injection q1 with q1; subst q1
    rw [Rdv_not (by simp)]
    exact ⟨[_], by simp only [Rd]; exact ⟨b, 0, cs, rfl, q2, q3, Rd_data x hd q4⟩, rfl⟩
  · rw [upd_ne _ _ h] at hx
    exact r.tmp s' y hx
theorem Rdp_append {U : Uns} {w : World} {B : Blk} {H : Hp} : ∀ {xs ys : List AV} {us vs : List Value}, Rdp U w xs B H us → Rdp U w ys B H vs → Rdp U w (xs ++ ys) B H (us ++ vs)
  | [], ys, us, vs, h1, h2 => by
    simp only [Rdp] at h1
    subst h1
    exact h2
  | x :: xs, ys, us, vs, h1, h2 => by
    simp only [Rdp] at h1
    obtain ⟨c, us', rfl, k1, k2⟩ := h1
    simp only [List.cons_append, Rdp]
    exact ⟨c, us' ++ vs, rfl, k1, Rdp_append k2 h2⟩
section
variable {P : Program} {E : Env} {nt : Nat} {ops : Array Oper} {T : Nat → Option AV} {H : Hp} {d : Option Nat} {ty : TypeId} {pos : String} {af : Array Edge} {gd : Option (Nat × Bool)}
theorem args_rdp {E : Env} {nt : Nat} {B : Blk} {T' : Nat → Option AV} {H' : Hp} {a : Act} {w : World} (r : Rel E nt B T' H' a w) : ∀ (l : List Operand) (zs : List AV), l.map (evalO T') = zs.map some → (∀ z ∈ zs, ∀ us, z ≠ .tup us) → Rdp (unst E B H') w zs B H' (l.map a.eval) := by
  intro l
  induction l with
  | nil =>
    intro zs h _
    have : zs = [] := by simpa using h.symm
    subst this
    simp [Rdp]
  | cons o l ih =>
    intro zs h hn
    cases zs with
    | nil => simp at h
    | cons z zs =>
      simp only [List.map_cons, List.cons.injEq] at h
      have ho := r.eval h.1
      rw [Rdv_not (hn z List.mem_cons_self)] at ho
      obtain ⟨c, h1, h2⟩ := ho
      simp only [List.map_cons, Rdp]
      exact ⟨c, _, by rw [h2], h1, ih zs h.2 (fun z hz => hn z (List.mem_cons_of_mem _ hz))⟩
theorem map_agree {T T' : Nat → Option AV} {l : List Operand} {zs : List AV} (h : l.map (evalO T) = zs.map some) (ht : ∀ y ∈ l, evalO T' y = evalO T y) : l.map (evalO T') = zs.map some := by
  rw [← h]
  exact List.map_congr_left ht
theorem ok_mkfn {f : FuncId} {l : List Operand} {xs : List AV} (hd : dOk nt d = true) (hx : l.map (evalO T) = xs.map some) (hnt : xs.all notTup = true) :
    OpOK P E nt ops ⟨d, .makeFunc (.func f) #[] l.toArray, ty, pos, af, gd⟩ T H [] ⟨.fn (.func f) [] xs, []⟩ :=
  ok_val hd fun B T' H' a w r ht hh => by
    have h1 := args_rdp r l xs (map_agree hx (fun y hy => ht y (by simp [Op.operands]; exact hy))) (fun z hz => notTup_ne (List.all_eq_true.1 hnt z hz))
    refine ⟨.func (.func f) #[] (l.map a.eval).toArray, ?_, ?_⟩
    · have hm : Array.map a.eval l.toArray = (l.map a.eval).toArray := by simp
      simp [execOp, Instr.makeFunc, hm]
    · rw [Rdv_not (by simp)]
      refine ⟨[_], ?_, rfl⟩
      simp only [Rd]
      exact ⟨[], _, rfl, by simp [Rdp], h1⟩
theorem ok_callv {f : FuncId} {fn : Func} {x : Operand} {l : List Operand} {ats : Array TypeId} {caps xs ys : List AV} {y : AV} (hd : dOk nt d = true) (hf : P.funcs[f]? = some fn) (hb : fn.body.isSome = true) (hnm : (fn.name == "runtime.NumGoroutine") = false)
    (hxf : evalO T x = some (.fn (.func f) [] caps)) (hcd : dataL caps = true) (hx : l.map (evalO T) = xs.map some) (hc : AFn P f (ys ++ caps) y) (hw : ∀ H', WkL H' xs ys) (hnt : xs.all notTup = true) : OpOK P E nt ops ⟨d, .call { callee := .value x, args := l.toArray, argTypes := ats }, ty, pos, af, gd⟩ T H [] ⟨y, []⟩ := by
  intro T' H' ht _ _ B a w r K Q hK
  have hxs := args_rdp r l xs (map_agree hx (fun y hy => agree_op ht (by simp [Op.operands, Call.operands]; exact .inr hy))) (fun z hz => notTup_ne (List.all_eq_true.1 hnt z hz))
  have hys := (hw H').rdp hxs
  have hfv := Rdv_one (by simp) (r.eval ((agree_op ht (x := x) (by simp [Op.operands, Call.operands])).trans hxf)) rfl
  simp only [Rd] at hfv
  obtain ⟨c1, c2, e1, e2, e3⟩ := hfv
  simp only [Rdp] at e2
  subst e2
  injection e1 with e1
  have h2 := hc _ w _ (Rdp_append hys (Rdp_data caps hcd e3))
  unfold Oper.wp
  have he : (execOp a.eval ⟨d, .call { callee := .value x, args := l.toArray, argTypes := ats }, ty, pos, af, gd⟩).run P w = .ok (.enter f (l.map a.eval ++ c2).toArray) w := by
    have hb' : fn.body ≠ none := by cases h : fn.body <;> simp_all
    have hn' : fn.name ≠ "runtime.NumGoroutine" := by simpa using hnm
    have ha : (l.map a.eval ++ c2).toArray = (l.toArray.map a.eval) ++ c2.toArray := by apply Array.ext'; simp
    rw [ha]
    simp [execOp, resolve, Deferred.ofValue, e1, invoke, callFunc, hf, hn', hb']
  rw [he]
  refine Calls.mono h2 ?_
  rintro e w' ⟨v, rfl, h3, h4⟩
  exact hK B _ w' ((r.ext h4).put hd (Rdv_free (Rdv_sub (fun b o h => ⟨r.unst_lt h, h⟩) h3)))
theorem ok_shr {t t' : TypeId} {x y : Operand} {k k' : IntKind} {a b c : Int} (hd : dOk nt d = true) (hx : evalO T x = some (.v (.int k a))) (hy : evalO T y = some (.v (.int k' b))) (h0 : 0 ≤ b) (hc : a.fdiv (2 ^ min b.toNat k.bits) = c) : OpOK P E nt ops ⟨d, .binOp .shr t x y t', ty, pos, af, gd⟩ T H [] ⟨.v (.int k c), []⟩ :=
  ok_bin hd hx hy (fun w => by subst hc; simp [eqGuard, binOp, Op.shift, show ¬ b < 0 by omega]) rfl
end
section
variable {E : Env} {nt : Nat} {ops : Array Oper} {T : Nat → Option AV} {H : Hp} {d : Option Nat} {ty : TypeId} {pos : String} {af : Array Edge} {gd : Option (Nat × Bool)}
theorem o_mkfn {f : FuncId} {l : List Operand} {xs : List AV} (hd : dOk nt d = true) (hx : argsA T l = some xs) (hnt : xs.all notTup = true) :
    OpOK Try.prog E nt ops ⟨d, .makeFunc (.func f) #[] l.toArray, ty, pos, af, gd⟩ T H [] ⟨.fn (.func f) [] xs, []⟩ := ok_mkfn hd (argsA_map hx) hnt
theorem o_callv {f : FuncId} {x : Operand} {l : List Operand} {ats : Array TypeId} {caps xs ys : List AV} {y : AV} (hd : dOk nt d = true) (hxf : evalO T x = some (.fn (.func f) [] caps)) (hcd : dataL caps = true) (hx : argsA T l = some xs) (hw : weakA xs = some ys) (hnt : xs.all notTup = true) (hc : ACall f (ys ++ caps) y) :
    OpOK Try.prog E nt ops ⟨d, .call { callee := .value x, args := l.toArray, argTypes := ats }, ty, pos, af, gd⟩ T H [] ⟨y, []⟩ := by
  obtain ⟨fn, h1, h2, h3, h4⟩ := hc
  exact ok_callv hd h1 h2 h3 hxf hcd (argsA_map hx) h4 (fun _ => weakA_wkl _ _ hw) hnt
/-- half of a number, by a shift -/
theorem o_shr1 {t t' : TypeId} {x y : Operand} {a : Nat} (hd : dOk nt d = true) (hx : evalO T x = some (.v (.int .u64 (a : Nat)))) (hy : evalO T y = some (.v (.int .u64 1))) : OpOK Try.prog E nt ops ⟨d, .binOp .shr t x y t', ty, pos, af, gd⟩ T H [] ⟨.v (.int .u64 ((a / 2 : Nat) : Int)), []⟩ :=
  ok_shr hd hx hy (by omega) (by
    rw [Int.fdiv_eq_ediv_of_nonneg _ (by decide)]
    show (a : Int) / 2 ^ min 1 64 = _
    norm_cast)
theorem o_cviu {s t : TypeId} {x : Operand} {n : Nat} (hs : ∃ u, Try.prog.underlying s = some u) (ht : Try.prog.underlying t = some (.int .u64)) (hd : dOk nt d = true) (hx : evalO T x = some (.v (.int .i64 (n : Nat)))) (hn : n ≤ 9223372036854775807) : OpOK Try.prog E nt ops ⟨d, .convert s t x, ty, pos, af, gd⟩ T H [] ⟨.v (.int .u64 (n : Nat)), []⟩ :=
  ok_conv_i hs ht hd hx (by simp [IntKind.wrap, IntKind.bits, IntKind.signed]; omega)
theorem o_cvui {s t : TypeId} {x : Operand} {n : Nat} (hs : ∃ u, Try.prog.underlying s = some u) (ht : Try.prog.underlying t = some (.int .i64)) (hd : dOk nt d = true) (hx : evalO T x = some (.v (.int .u64 (n : Nat)))) (hn : n ≤ 9223372036854775807) : OpOK Try.prog E nt ops ⟨d, .convert s t x, ty, pos, af, gd⟩ T H [] ⟨.v (.int .i64 (n : Nat)), []⟩ :=
  ok_conv_i hs ht hd hx (IntWalk.i64_in _ (by omega))
end
end Go.Proofs.Ytigbkhjcboecjaa
