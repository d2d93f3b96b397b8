/-
  AbsOps: the operations that touch no memory of the function's own, over plain readings. Of no one program.
-/
import Derived.Test.YtigbkhjcboecjaaAbsFn
import Derived.WalkLawsBesides
namespace Go.Proofs.Ytigbkhjcboecjaa
open Go Go.RowKit
set_option linter.unusedVariables false
set_option linter.unusedSimpArgs false

theorem agree_op {ops : Array Oper} {o : Oper} {T T' : Nat → Option AV} (ht : ∀ s ∈ o.looksAt ops, T' s = T s) {x : Operand} (hx : x ∈ o.op.operands.toList) : evalO T' x = evalO T x := by
  cases x with
  | tmp t => exact ht t (List.mem_append_left _ (List.mem_filterMap.2 ⟨.tmp t, hx, rfl⟩))
  | _ => rfl
section
variable {P : Program} {E : Env} {nt : Nat} {ops : Array Oper} {T : Nat → Option AV} {H : Hp} {d : Option Nat} {ty : TypeId} {pos : String} {af : Array Edge} {gd : Option (Nat × Bool)}
/-- an operation that leaves a value and no more -/
theorem ok_val {op : Op} {rh : List Nat} {x : AV} (hd : dOk nt d = true)
    (h : ∀ B T' H' a w, Rel E nt B T' H' a w → (∀ y ∈ op.operands.toList, evalO T' y = evalO T y) → (∀ g ∈ rh, H' g = H g) →
      ∃ v, (execOp a.eval ⟨d, op, ty, pos, af, gd⟩).run P w = .ok (.value v) w ∧ Rdv (unst E B H') w B H' x v) : OpOK P E nt ops ⟨d, op, ty, pos, af, gd⟩ T H rh ⟨x, []⟩ := by
  intro T' H' ht hh _ B a w r K Q hK
  obtain ⟨v, h1, h2⟩ := h B T' H' a w r (fun y hy => agree_op ht hy) hh
  unfold Oper.wp
  rw [h1]
  exact hK B _ w (r.put hd h2)
theorem ok_move {x : Operand} {v : AV} (hd : dOk nt d = true) (hx : evalO T x = some v) : OpOK P E nt ops ⟨d, .move x, ty, pos, af, gd⟩ T H [] ⟨v, []⟩ :=
  ok_val hd fun B T' H' a w r ht hh => ⟨a.eval x, by simp [execOp], r.eval ((ht x (by simp [Op.operands])).trans hx)⟩
theorem ok_assign {x : Operand} {v : AV} (hd : dOk nt d = true) (hx : evalO T x = some v) : OpOK P E nt ops ⟨d, .assign x, ty, pos, af, gd⟩ T H [] ⟨v, []⟩ :=
  ok_val hd fun B T' H' a w r ht hh => ⟨a.eval x, by simp [execOp], r.eval ((ht x (by simp [Op.operands])).trans hx)⟩
theorem ok_pick_t {c x y : Operand} {v : AV} (hd : dOk nt d = true) (hc : evalO T c = some (.v (.bool true))) (hx : evalO T x = some v) : OpOK P E nt ops ⟨d, .pick c x y, ty, pos, af, gd⟩ T H [] ⟨v, []⟩ :=
  ok_val hd fun B T' H' a w r ht hh => ⟨a.eval x, by
    have := r.evalv ((ht c (by simp [Op.operands])).trans hc)
    simp [execOp, this, asBool], r.eval ((ht x (by simp [Op.operands])).trans hx)⟩
theorem ok_pick_f {c x y : Operand} {v : AV} (hd : dOk nt d = true) (hc : evalO T c = some (.v (.bool false))) (hy : evalO T y = some v) : OpOK P E nt ops ⟨d, .pick c x y, ty, pos, af, gd⟩ T H [] ⟨v, []⟩ :=
  ok_val hd fun B T' H' a w r ht hh => ⟨a.eval y, by
    have := r.evalv ((ht c (by simp [Op.operands])).trans hc)
    simp [execOp, this, asBool], r.eval ((ht y (by simp [Op.operands])).trans hy)⟩
theorem ok_extract {x : Operand} {i : Nat} {vs : List AV} {v : AV} (hd : dOk nt d = true) (hx : evalO T x = some (.tup vs)) (hv : vs[i]? = some v) : OpOK P E nt ops ⟨d, .extract x i, ty, pos, af, gd⟩ T H [] ⟨v, []⟩ :=
  ok_val hd fun B T' H' a w r ht hh => by
    have h := r.eval ((ht x (by simp [Op.operands])).trans hx)
    rw [Rdv_tup] at h
    obtain ⟨us, h1, h2⟩ := h
    obtain ⟨k1, k2⟩ := Rdp_get h2
    obtain ⟨u, h3, c, h4, h5⟩ := k2 i v hv
    refine ⟨u, ?_, by rw [Rdv_not (Rd_notup h4)]; exact ⟨c, h4, h5⟩⟩
    simp [execOp, h1, Instr.extract, h3]
theorem ok_bin {op : BinOp} {t t' : TypeId} {x y : Operand} {vx vy vz : Value} (hd : dOk nt d = true) (hx : evalO T x = some (.v vx)) (hy : evalO T y = some (.v vy))
    (hr : ∀ w, (do eqGuard op t x y vx vy; binOp op t vx vy : Sem Value).run P w = .ok vz w) (hp : plain vz = true) : OpOK P E nt ops ⟨d, .binOp op t x y t', ty, pos, af, gd⟩ T H [] ⟨.v vz, []⟩ :=
  ok_val hd fun B T' H' a w r ht hh => ⟨vz, by
    have h1 := r.evalv ((ht x (by simp [Op.operands])).trans hx)
    have h2 := r.evalv ((ht y (by simp [Op.operands])).trans hy)
    simp only [execOp, h1, h2]
    rw [Sem.run_bind, hr w]
    rfl, by rw [Rdv_v]; exact ⟨hp, rfl⟩⟩
section arith
variable {t t' : TypeId} {x y : Operand} {k : IntKind} {a b : Int}
theorem ok_add {c : Int} (hd : dOk nt d = true) (hx : evalO T x = some (.v (.int k a))) (hy : evalO T y = some (.v (.int k b))) (hc : k.wrap (a + b) = c) : OpOK P E nt ops ⟨d, .binOp .add t x y t', ty, pos, af, gd⟩ T H [] ⟨.v (.int k c), []⟩ :=
  ok_bin hd hx hy (fun w => by subst hc; simp [eqGuard, binOp, Op.intArith]) rfl
theorem ok_sub {c : Int} (hd : dOk nt d = true) (hx : evalO T x = some (.v (.int k a))) (hy : evalO T y = some (.v (.int k b))) (hc : k.wrap (a - b) = c) : OpOK P E nt ops ⟨d, .binOp .sub t x y t', ty, pos, af, gd⟩ T H [] ⟨.v (.int k c), []⟩ :=
  ok_bin hd hx hy (fun w => by subst hc; simp [eqGuard, binOp, Op.intArith]) rfl
theorem ok_mul {c : Int} (hd : dOk nt d = true) (hx : evalO T x = some (.v (.int k a))) (hy : evalO T y = some (.v (.int k b))) (hc : k.wrap (a * b) = c) : OpOK P E nt ops ⟨d, .binOp .mul t x y t', ty, pos, af, gd⟩ T H [] ⟨.v (.int k c), []⟩ :=
  ok_bin hd hx hy (fun w => by subst hc; simp [eqGuard, binOp, Op.intArith]) rfl
theorem i64_add {a b : Int} (h : -9223372036854775808 ≤ a + b ∧ a + b ≤ 9223372036854775807) : IntKind.i64.wrap (a + b) = a + b := IntWalk.i64_in _ h
theorem i64_sub {a b : Int} (h : -9223372036854775808 ≤ a - b ∧ a - b ≤ 9223372036854775807) : IntKind.i64.wrap (a - b) = a - b := IntWalk.i64_in _ h
theorem i64_mul {a b : Int} (h : -9223372036854775808 ≤ a * b ∧ a * b ≤ 9223372036854775807) : IntKind.i64.wrap (a * b) = a * b := IntWalk.i64_in _ h
theorem ok_quo {c : Int} (hd : dOk nt d = true) (hx : evalO T x = some (.v (.int k a))) (hy : evalO T y = some (.v (.int k b))) (h0 : b ≠ 0) (hc : k.wrap (a.tdiv b) = c) : OpOK P E nt ops ⟨d, .binOp .quo t x y t', ty, pos, af, gd⟩ T H [] ⟨.v (.int k c), []⟩ :=
  ok_bin hd hx hy (fun w => by subst hc; simp [eqGuard, binOp, Op.intDiv, h0]) rfl
theorem ok_rem {c : Int} (hd : dOk nt d = true) (hx : evalO T x = some (.v (.int k a))) (hy : evalO T y = some (.v (.int k b))) (h0 : b ≠ 0) (hc : a.tmod b = c) : OpOK P E nt ops ⟨d, .binOp .rem t x y t', ty, pos, af, gd⟩ T H [] ⟨.v (.int k c), []⟩ :=
  ok_bin hd hx hy (fun w => by subst hc; simp [eqGuard, binOp, Op.intDiv, h0]) rfl
theorem i64_quo {a b : Int} (h : 0 ≤ a ∧ a ≤ 9223372036854775807 ∧ 1 ≤ b) : IntKind.i64.wrap (a.tdiv b) = a / b := by
  rw [Int.tdiv_eq_ediv_of_nonneg h.1]
  have h1 : 0 ≤ a / b := Int.ediv_nonneg h.1 (by omega)
  have h2 : a / b ≤ a := Int.ediv_le_self _ h.1
  exact IntWalk.i64_in _ ⟨by omega, by omega⟩
theorem i64_rem {a b : Int} (h : 0 ≤ a) : a.tmod b = a % b := Int.tmod_eq_emod_of_nonneg h
theorem ok_lss (hd : dOk nt d = true) (hx : evalO T x = some (.v (.int k a))) (hy : evalO T y = some (.v (.int k b))) : OpOK P E nt ops ⟨d, .binOp .lss t x y t', ty, pos, af, gd⟩ T H [] ⟨.v (.bool (decide (a < b))), []⟩ :=
  ok_bin hd hx hy (fun w => by simp [eqGuard, binOp, Op.intCmp]) rfl
theorem ok_leq (hd : dOk nt d = true) (hx : evalO T x = some (.v (.int k a))) (hy : evalO T y = some (.v (.int k b))) : OpOK P E nt ops ⟨d, .binOp .leq t x y t', ty, pos, af, gd⟩ T H [] ⟨.v (.bool (decide (a ≤ b))), []⟩ :=
  ok_bin hd hx hy (fun w => by simp [eqGuard, binOp, Op.intCmp]) rfl
theorem ok_gtr (hd : dOk nt d = true) (hx : evalO T x = some (.v (.int k a))) (hy : evalO T y = some (.v (.int k b))) : OpOK P E nt ops ⟨d, .binOp .gtr t x y t', ty, pos, af, gd⟩ T H [] ⟨.v (.bool (decide (b < a))), []⟩ :=
  ok_bin hd hx hy (fun w => by simp [eqGuard, binOp, Op.intCmp]) rfl
theorem ok_geq (hd : dOk nt d = true) (hx : evalO T x = some (.v (.int k a))) (hy : evalO T y = some (.v (.int k b))) : OpOK P E nt ops ⟨d, .binOp .geq t x y t', ty, pos, af, gd⟩ T H [] ⟨.v (.bool (decide (b ≤ a))), []⟩ :=
  ok_bin hd hx hy (fun w => by simp [eqGuard, binOp, Op.intCmp]) rfl
theorem ok_eql (hd : dOk nt d = true) (hx : evalO T x = some (.v (.int k a))) (hy : evalO T y = some (.v (.int k b))) : OpOK P E nt ops ⟨d, .binOp .eql t x y t', ty, pos, af, gd⟩ T H [] ⟨.v (.bool (decide (a = b))), []⟩ :=
  ok_bin hd hx hy (fun w => by simp [eqGuard, binOp, Op.intCmp]; rfl) rfl
theorem ok_neq (hd : dOk nt d = true) (hx : evalO T x = some (.v (.int k a))) (hy : evalO T y = some (.v (.int k b))) : OpOK P E nt ops ⟨d, .binOp .neq t x y t', ty, pos, af, gd⟩ T H [] ⟨.v (.bool (decide (a ≠ b))), []⟩ :=
  ok_bin hd hx hy (fun w => by simp [eqGuard, binOp, Op.intCmp, bne]; rfl) rfl
end arith
theorem run_eq_bool {t : TypeId} (ht : P.underlying t = some .bool) (n : Nat) (a b : Bool) (w : World) : (Op.equalIn (n + 1) t (.bool a) (.bool b)).run P w = .ok (a == b) w := by simp [Op.equalIn, run_underlying ht]
theorem ok_eql_b {t t' : TypeId} {x y : Operand} {a b : Bool} (ht : P.underlying t = some .bool) (hd : dOk nt d = true) (hx : evalO T x = some (.v (.bool a))) (hy : evalO T y = some (.v (.bool b))) : OpOK P E nt ops ⟨d, .binOp .eql t x y t', ty, pos, af, gd⟩ T H [] ⟨.v (.bool (decide (a = b))), []⟩ :=
  ok_bin hd hx hy (fun w => by
    have : (Op.equal t (.bool a) (.bool b)).run P w = .ok (a == b) w := run_eq_bool ht 9999 a b w
    simp [eqGuard, binOp, this]; rfl) rfl
theorem ok_neq_b {t t' : TypeId} {x y : Operand} {a b : Bool} (ht : P.underlying t = some .bool) (hd : dOk nt d = true) (hx : evalO T x = some (.v (.bool a))) (hy : evalO T y = some (.v (.bool b))) : OpOK P E nt ops ⟨d, .binOp .neq t x y t', ty, pos, af, gd⟩ T H [] ⟨.v (.bool (decide (a ≠ b))), []⟩ :=
  ok_bin hd hx hy (fun w => by
    have : (Op.equal t (.bool a) (.bool b)).run P w = .ok (a == b) w := run_eq_bool ht 9999 a b w
    simp [eqGuard, binOp, this]; cases a <;> cases b <;> rfl) rfl
theorem ok_not {t : TypeId} {x : Operand} {p : Bool} (hd : dOk nt d = true) (hx : evalO T x = some (.v (.bool p))) : OpOK P E nt ops ⟨d, .unOp .not t x, ty, pos, af, gd⟩ T H [] ⟨.v (.bool (!p)), []⟩ :=
  ok_val hd fun B T' H' a w r ht hh => ⟨.bool (!p), by
    have h1 := r.evalv ((ht x (by simp [Op.operands])).trans hx)
    simp [execOp, h1, Op.unary], by rw [Rdv_v]; exact ⟨rfl, rfl⟩⟩
theorem ok_conv_i {s t : TypeId} {x : Operand} {k k' : IntKind} {n : Int} {c : Int} (hs : ∃ u, P.underlying s = some u) (htt : P.underlying t = some (.int k')) (hd : dOk nt d = true) (hx : evalO T x = some (.v (.int k n))) (hc : k'.wrap n = c) : OpOK P E nt ops ⟨d, .convert s t x, ty, pos, af, gd⟩ T H [] ⟨.v (.int k' c), []⟩ :=
  ok_val hd fun B T' H' a w r ht hh => ⟨.int k' c, by
    have h1 := r.evalv ((ht x (by simp [Op.operands])).trans hx)
    obtain ⟨u, hu⟩ := hs
    subst hc
    simp [execOp, h1, convert, run_underlying hu, run_underlying htt, Conv.intToInt], by rw [Rdv_v]; exact ⟨rfl, rfl⟩⟩
theorem Rdv_one {U : Uns} {w : World} {B : Blk} {H : Hp} {x : AV} {v : Value} (hx : ∀ xs, x ≠ .tup xs) (h : Rdv U w B H x v) (ha : isAggA x = false) : Rd U w x B H [v] := by
  rw [Rdv_not hx] at h
  obtain ⟨c, h1, rfl⟩ := h
  have := (Rd_pack h1).2 ha
  rw [← this]; exact h1
theorem ok_len {x : Operand} {t e : TypeId} {tok : Option Nat} {n : Nat} {xs : List AV} (htt : P.underlying t = some (.slice e)) (hd : dOk nt d = true) (hx : evalO T x = some (.sl tok n xs)) :
    OpOK P E nt ops ⟨d, .call { callee := .builtin .len, args := #[x], argTypes := #[t] }, ty, pos, af, gd⟩ T H [] ⟨.v (.int .i64 xs.length), []⟩ :=
  ok_val hd fun B T' H' a w r ht hh => ⟨.int .i64 xs.length, by
    have h := Rdv_one (by simp) (r.eval ((ht x (by simp [Op.operands, Call.operands])).trans hx)) rfl
    simp only [Rd] at h
    obtain ⟨A, cap, h1, _⟩ := h
    injection h1 with h1
    simp [execOp, resolve, invoke, builtin, h1, Builtin.len_, run_underlying htt, goInt], by rw [Rdv_v]; exact ⟨rfl, rfl⟩⟩
theorem ok_len_nil {x : Operand} {t e : TypeId} (htt : P.underlying t = some (.slice e)) (hd : dOk nt d = true) (hx : evalO T x = some (.v (.slice none 0 0))) :
    OpOK P E nt ops ⟨d, .call { callee := .builtin .len, args := #[x], argTypes := #[t] }, ty, pos, af, gd⟩ T H [] ⟨.v (.int .i64 0), []⟩ :=
  ok_val hd fun B T' H' a w r ht hh => ⟨.int .i64 0, by
    have h := r.evalv ((ht x (by simp [Op.operands, Call.operands])).trans hx)
    simp [execOp, resolve, invoke, builtin, h, Builtin.len_, run_underlying htt, goInt], by rw [Rdv_v]; exact ⟨rfl, rfl⟩⟩
theorem ok_len_seg {x : Operand} {t e : TypeId} {g off n len cap : Nat} {p : List Nat} (htt : P.underlying t = some (.slice e)) (hd : dOk nt d = true) (hx : evalO T x = some (.seg g off n p len cap)) :
    OpOK P E nt ops ⟨d, .call { callee := .builtin .len, args := #[x], argTypes := #[t] }, ty, pos, af, gd⟩ T H [] ⟨.v (.int .i64 len), []⟩ :=
  ok_val hd fun B T' H' a w r ht hh => ⟨.int .i64 len, by
    have h := Rdv_one (by simp) (r.eval ((ht x (by simp [Op.operands, Call.operands])).trans hx)) rfl
    simp only [Rd] at h
    obtain ⟨_, b, _, _, _, h1⟩ := h
    injection h1 with h1
    simp [execOp, resolve, invoke, builtin, h1, Builtin.len_, run_underlying htt, goInt], by rw [Rdv_v]; exact ⟨rfl, rfl⟩⟩
theorem ok_len_str {x : Operand} {t : TypeId} {s : ByteArray} (htt : P.underlying t = some .string) (hd : dOk nt d = true) (hx : evalO T x = some (.v (.string s))) :
    OpOK P E nt ops ⟨d, .call { callee := .builtin .len, args := #[x], argTypes := #[t] }, ty, pos, af, gd⟩ T H [] ⟨.v (.int .i64 s.size), []⟩ :=
  ok_val hd fun B T' H' a w r ht hh => ⟨.int .i64 s.size, by
    have h := r.evalv ((ht x (by simp [Op.operands, Call.operands])).trans hx)
    simp [execOp, resolve, invoke, builtin, h, Builtin.len_, run_underlying htt, goInt], by rw [Rdv_v]; exact ⟨rfl, rfl⟩⟩
theorem ok_min {x y : Operand} {t t' : TypeId} {k : IntKind} {p q : Int} (hd : dOk nt d = true) (hx : evalO T x = some (.v (.int k p))) (hy : evalO T y = some (.v (.int k q))) :
    OpOK P E nt ops ⟨d, .call { callee := .builtin .min, args := #[x, y], argTypes := #[t, t'] }, ty, pos, af, gd⟩ T H [] ⟨.v (.int k (if q < p then q else p)), []⟩ :=
  ok_val hd fun B T' H' a w r ht hh => ⟨.int k (if q < p then q else p), by
    have h1 := r.evalv ((ht x (by simp [Op.operands, Call.operands])).trans hx)
    have h2 := r.evalv ((ht y (by simp [Op.operands, Call.operands])).trans hy)
    simp [execOp, resolve, invoke, builtin, h1, h2, Builtin.min_, Builtin.min2], by rw [Rdv_v]; exact ⟨rfl, rfl⟩⟩
end
end Go.Proofs.Ytigbkhjcboecjaa
