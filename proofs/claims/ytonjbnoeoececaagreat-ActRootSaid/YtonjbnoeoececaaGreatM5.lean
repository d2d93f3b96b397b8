/-
  M5: several texts as one: AbsIfc, NodeWalks, NodeWalks2, NodeFits, AbsAct, ActWalks, ActWalks2, LawVal, LawMsgs, LawEnts, NodeLaw, ActWalks3, ActWalks4, NodeFacts, AfnAwake7, ActAwake, SplitFacts, AfnAwake8, FanIns, ActTheory, LawAct1, ActKid. No condition beyond those that each theorem states.
-/
import Derived.Test.YtonjbnoeoececaaGreatM4
namespace Go.Proofs.YtonjbnoeoececaaGreat
open Go Go.RowKit
set_option linter.unusedVariables false
set_option linter.unusedSimpArgs false
set_option maxRecDepth 100000

theorem run_method {P : Program} {t : TypeId} {v : Value} {name : String} {f : FuncId} {F : Array Field} (n : Nat) (h : (P.info? t).bind (fun i => (i.methods.find? (·.name == name)).map fun m => (m.path.toList.length, m.func)) = some (0, some (f, false))) (hu : P.underlying t = some (.struct F)) (w : World) : (Go.method (n + 1) t v name).run P w = .ok (f, v) w := by
  cases hi : P.info? t with
  | none => rw [hi] at h; cases h
  | some i =>
    rw [hi] at h
    simp only [Option.bind_some] at h
    cases hm : i.methods.find? (·.name == name) with
    | none => rw [hm] at h; cases h
    | some m =>
      rw [hm] at h
      simp only [Option.map_some, Option.some.injEq, Prod.mk.injEq] at h
      obtain ⟨h1, h2⟩ := h
      have h3 : m.path.toList = [] := List.eq_nil_of_length_eq_zero h1
      unfold Go.method
      simp [typeInfo, hi, hm, h2, h3, Go.follow, Go.receiverAt, run_underlying hu, Go.Place.get]
section
variable {P : Program} {E : Env} {nt : Nat} {ops : Array Oper} {T : Nat → Option AV} {H : Hp} {d : Option Nat} {ty : TypeId} {pos : String} {af : Array Edge} {gd : Option (Nat × Bool)}
theorem ok_mkifc {t : TypeId} {x : Operand} {y : AV} {F : Array Field} (hu : P.underlying t = some (.struct F)) (hd : dOk nt d = true) (hx : evalO T x = some y) (hnt : notTup y = true) : OpOK P E nt ops ⟨d, .makeInterface t x, ty, pos, af, gd⟩ T H [] ⟨.ifc t y, []⟩ :=
  ok_val hd fun B T' H' a w r ht hh => by
    have h1 := r.eval ((ht x (by simp [Op.operands])).trans hx)
    rw [Rdv_not (notTup_ne hnt)] at h1
    obtain ⟨c, h2, h3⟩ := h1
    refine ⟨.iface t (a.eval x), by simp [execOp, Instr.makeInterface, run_underlying hu], ?_⟩
    rw [Rdv_not (by simp)]
    exact ⟨[_], by simp only [Rd]; exact ⟨c, h2, rfl⟩, by rw [h3]; rfl⟩
/-- of that type -/
theorem ok_assert_y {t xt : TypeId} {x : Operand} {y : AV} {F : Array Field} (hu : P.underlying t = some (.struct F)) (hd : dOk nt d = true) (hx : evalO T x = some (.ifc t y)) (hnt : notTup y = true) : OpOK P E nt ops ⟨d, .typeAssert x xt t true, ty, pos, af, gd⟩ T H [] ⟨.tup [y, boolA true], []⟩ :=
  ok_val hd fun B T' H' a w r ht hh => by
    have h1 := Rdv_one (by simp) (r.eval ((ht x (by simp [Op.operands])).trans hx)) rfl
    simp only [Rd] at h1
    obtain ⟨c, h2, h3⟩ := h1
    injection h3 with h3
    refine ⟨.tuple #[pack y c, .bool true], by simp [execOp, h3, Instr.typeAssert, run_underlying hu], ?_⟩
    rw [Rdv_tup]
    refine ⟨[pack y c, .bool true], rfl, ?_⟩
    simp only [Rdp]
    exact ⟨c, [.bool true], rfl, h2, [.bool true], [], rfl, (rd_v rfl).2 rfl, rfl⟩
def isAggV : Value → Bool
  | .agg _ => true
  | _ => false
/-- of another one -/
theorem ok_assert_n {t s xt : TypeId} {x : Operand} {y : AV} {n : Nat} {fs : List AV} {F : Array Field} (hu : P.underlying t = some (.struct F)) (hd : dOk nt d = true) (hx : evalO T x = some (.ifc s y)) (hne : Nat.beq s t = false) (hz : ZeroOk P t (.agg n fs)) (hzv : ((P.info? t).bind (·.zero)).map isAggV = some true) : OpOK P E nt ops ⟨d, .typeAssert x xt t true, ty, pos, af, gd⟩ T H [] ⟨.tup [.agg n fs, boolA false], []⟩ :=
  ok_val hd fun B T' H' a w r ht hh => by
    have h1 := Rdv_one (by simp) (r.eval ((ht x (by simp [Op.operands])).trans hx)) rfl
    simp only [Rd] at h1
    obtain ⟨c, h2, h3⟩ := h1
    injection h3 with h3
    obtain ⟨i, zv, z1, z2, z3⟩ := hz
    have hst : ¬ s = t := fun e => by subst e; simp at hne
    have hzr := Rd_free (B := B) (H := H') _ (z3 (unst E B H') w)
    refine ⟨.tuple #[zv, .bool false], by simp [execOp, h3, Instr.typeAssert, run_underlying hu, hst, zeroValue, typeInfo, z1, z2], ?_⟩
    rw [Rdv_tup]
    refine ⟨[zv, .bool false], rfl, ?_⟩
    simp only [Rdp]
    refine ⟨zv.cells.toList, [.bool false], ?_, hzr, [.bool false], [], rfl, (rd_v rfl).2 rfl, rfl⟩
    rw [z1] at hzv
    simp only [Option.bind_some, z2, Option.map_some, Option.some.injEq] at hzv
    cases zv <;> first | rfl | cases hzv
theorem ok_invoke {f : FuncId} {fn : Func} {t : TypeId} {x : Operand} {name : String} {l : List Operand} {ats : Array TypeId} {v y : AV} {xs ys : List AV} {F : Array Field} (hd : dOk nt d = true) (hf : P.funcs[f]? = some fn) (hb : fn.body.isSome = true) (hnm : (fn.name == "runtime.NumGoroutine") = false)
    (hu : P.underlying t = some (.struct F)) (hm : (P.info? t).bind (fun i => (i.methods.find? (·.name == name)).map fun m => (m.path.toList.length, m.func)) = some (0, some (f, false))) (hxf : evalO T x = some (.ifc t v)) (hvd : dataA v = true) (hx : l.map (evalO T) = xs.map some) (hc : AFn P f (v :: ys) y) (hw : ∀ H', WkL H' xs ys) (hnt : xs.all notTup = true) :
    OpOK P E nt ops ⟨d, .call { callee := .invoke x name, args := l.toArray, argTypes := ats }, ty, pos, af, gd⟩ T H [] ⟨y, []⟩ := by
  intro T' H' ht _ _ B a w r K Q hK
  have hxs := args_rdp r l xs (map_agree hx (fun y hy => agree_op ht (by simp [Op.operands, Call.operands]; exact .inr hy))) (fun z hz => notTup_ne (List.all_eq_true.1 hnt z hz))
  have hys := (hw H').rdp hxs
  have hfv := Rdv_one (by simp) (r.eval ((agree_op ht (x := x) (by simp [Op.operands, Call.operands])).trans hxf)) rfl
  simp only [Rd] at hfv
  obtain ⟨c, e1, e2⟩ := hfv
  injection e2 with e2
  have hall : Rdp (unst E B H') w (v :: ys) B0 H0 (pack v c :: l.map a.eval) := by
    simp only [Rdp]
    exact ⟨c, _, rfl, Rd_data v hvd e1, hys⟩
  have h2 := hc _ w _ hall
  unfold Oper.wp
  have he : (execOp a.eval ⟨d, .call { callee := .invoke x name, args := l.toArray, argTypes := ats }, ty, pos, af, gd⟩).run P w = .ok (.enter f (pack v c :: l.map a.eval).toArray) w := by
    have hb' : fn.body ≠ none := by cases h : fn.body <;> simp_all
    have hn' : fn.name ≠ "runtime.NumGoroutine" := by simpa using hnm
    have hmr := run_method (v := pack v c) (P.types.size + Made.depth - 1) hm hu w
    rw [show P.types.size + Made.depth - 1 + 1 = P.types.size + Made.depth from by simp [Made.depth]] at hmr
    have ha : (pack v c :: l.map a.eval).toArray = #[pack v c] ++ (l.toArray.map a.eval) := by apply Array.ext'; simp
    rw [ha]
    simp [execOp, resolve, e2, invoke, callMethod, hmr, callFunc, hf, hn', hb']
    exact List.take_of_length_le (by simp)
  rw [he]
  refine Calls.mono h2 ?_
  rintro e w' ⟨u, rfl, h3, h4⟩
  exact hK B _ w' ((r.ext h4).put hd (Rdv_free (Rdv_sub (fun b o h => ⟨r.unst_lt h, h⟩) h3)))
end
section
variable {E : Env} {nt : Nat} {ops : Array Oper} {T : Nat → Option AV} {H : Hp} {d : Option Nat} {ty : TypeId} {pos : String} {af : Array Edge} {gd : Option (Nat × Bool)}
noncomputable def isStructB (t : TypeId) : Bool := match Tryz.prog.underlying t with
  | some (.struct _) => true
  | _ => false
theorem isStruct_eq {t : TypeId} (h : isStructB t = true) : ∃ F, Tryz.prog.underlying t = some (.struct F) := by
  unfold isStructB at h
  split at h
  · rename_i F e; exact ⟨F, e⟩
  · cases h
theorem o_mkifc {t : TypeId} {x : Operand} {y : AV} (hd : dOk nt d = true) (hx : evalO T x = some y) (hnt : notTup y = true) (hu : isStructB t = true) : OpOK Tryz.prog E nt ops ⟨d, .makeInterface t x, ty, pos, af, gd⟩ T H [] ⟨.ifc t y, []⟩ := by
  obtain ⟨F, hF⟩ := isStruct_eq hu
  exact ok_mkifc hF hd hx hnt
theorem o_asy {t xt : TypeId} {x : Operand} {y : AV} (hd : dOk nt d = true) (hx : evalO T x = some (.ifc t y)) (hnt : notTup y = true) (hu : isStructB t = true) : OpOK Tryz.prog E nt ops ⟨d, .typeAssert x xt t true, ty, pos, af, gd⟩ T H [] ⟨.tup [y, boolA true], []⟩ := by
  obtain ⟨F, hF⟩ := isStruct_eq hu
  exact ok_assert_y hF hd hx hnt
theorem o_asn {t s xt : TypeId} {x : Operand} {y : AV} {n : Nat} {fs : List AV} (hd : dOk nt d = true) (hx : evalO T x = some (.ifc s y)) (hne : Nat.beq s t = false) (hz : zeroT t = some (.agg n fs)) (hu : isStructB t = true) (hzv : ((Tryz.prog.info? t).bind (·.zero)).map isAggV = some true) : OpOK Tryz.prog E nt ops ⟨d, .typeAssert x xt t true, ty, pos, af, gd⟩ T H [] ⟨.tup [.agg n fs, boolA false], []⟩ := by
  obtain ⟨F, hF⟩ := isStruct_eq hu
  exact ok_assert_n hF hd hx hne (zeroT_ok hz) hzv
/-- a method by name: the function that stands for it -/
def MCall (t : TypeId) (name : String) (args : List AV) (r : AV) : Prop := ∃ f fn F, Tryz.prog.funcs[f]? = some fn ∧ fn.body.isSome = true ∧ (fn.name == "runtime.NumGoroutine") = false ∧ Tryz.prog.underlying t = some (.struct F) ∧ (Tryz.prog.info? t).bind (fun i => (i.methods.find? (·.name == name)).map fun m => (m.path.toList.length, m.func)) = some (0, some (f, false)) ∧ AFn Tryz.prog f args r
theorem mcall {t : TypeId} {name : String} {f : FuncId} {fn : Func} {args : List AV} {r : AV} (hf : Tryz.prog.funcs[f]? = some fn) (hc : AFn Tryz.prog f args r) (hb : fn.body.isSome = true) (hn : (fn.name == "runtime.NumGoroutine") = false) (hu : isStructB t = true) (hm : (Tryz.prog.info? t).bind (fun i => (i.methods.find? (·.name == name)).map fun m => (m.path.toList.length, m.func)) = some (0, some (f, false))) : MCall t name args r := by
  obtain ⟨F, hF⟩ := isStruct_eq hu
  exact ⟨f, fn, F, hf, hb, hn, hF, hm, hc⟩
theorem o_minv {t : TypeId} {x : Operand} {name : String} {l : List Operand} {ats : Array TypeId} {v y : AV} {xs ys : List AV} (hd : dOk nt d = true) (hxf : evalO T x = some (.ifc t v)) (hvd : dataA v = true) (hx : argsA T l = some xs) (hw : weakA xs = some ys) (hnt : xs.all notTup = true) (hc : MCall t name (v :: ys) y) :
    OpOK Tryz.prog E nt ops ⟨d, .call { callee := .invoke x name, args := l.toArray, argTypes := ats }, ty, pos, af, gd⟩ T H [] ⟨y, []⟩ := by
  obtain ⟨f, fn, F, h1, h2, h3, h4, h5, h6⟩ := hc
  exact ok_invoke hd h1 h2 h3 h4 h5 hxf hvd (argsA_map hx) h6 (fun _ => weakA_wkl _ _ hw) hnt
end
end Go.Proofs.YtonjbnoeoececaaGreat

namespace Go.Proofs.YtonjbnoeoececaaGreat
open Go Go.RowKit
set_option linter.unusedVariables false
set_option linter.unusedSimpArgs false
set_option maxRecDepth 100000

structure Nd.Sm (n : Nd) : Prop where
  es : n.es.length ≤ 100000000
  ks : n.ks.length ≤ 100000000
  ps : n.ps.length ≤ 100000000
  ms : n.ms.length ≤ 100000000
def Nd.kind (n : Nd) : TypeId := if n.leaf = true then 101 else 102
attribute [local irreducible] OpOK AWops AW CondB Go2 AFn thenA inBlockA noGotoA orderOk wantedA
set_option maxRecDepth 100000 in
set_option maxHeartbeats 4000000 in
theorem a_leafright (n : Nd) (h : n.Sm) : AFn Tryz.prog 143 [n.av] (boolA (leafOk keyCmp n)) := by
  obtain ⟨lf, es, ks, ps, ms⟩ := n
  dsimp only [Nd.av]
  refine AFn_intro Tryz.func143 rfl Tryz.ntmps143 rfl (by simp) [_] rfl fun E hE => ?_
  obtain ⟨h1, h2, h3, h4⟩ := h
  unfold leafOk
  dsimp only at h1 h2 h3 h4 ⊢
  have c1 := a_leafcheck es h1
  cases q : entsOkB keyCmp es with
  | false =>
    rw [q] at c1
    have d1 := acall Tryz.func144 (c1) (by decide +kernel) (by decide +kernel)
    refine wI ?_
    exact fin ⟨res_of rfl rfl rfl, trivial⟩
  | true =>
    rw [q] at c1
    have d1 := acall Tryz.func144 (c1) (by decide +kernel) (by decide +kernel)
    by_cases c : ks.length + ps.length + ms.length = 0
    · rw [decide_eq_true c]
      refine wI ?_
      exact fin ⟨res_yes rfl (by omega), trivial⟩
    · rw [decide_eq_false c]
      refine wI ?_
      exact fin ⟨res_no rfl (by omega), trivial⟩
set_option maxRecDepth 100000 in
set_option maxHeartbeats 4000000 in
theorem a_innerright (n : Nd) (h : n.Sm) : AFn Tryz.prog 146 [n.av] (boolA (innerOk keyCmp n)) := by
  obtain ⟨lf, es, ks, ps, ms⟩ := n
  dsimp only [Nd.av]
  refine AFn_intro Tryz.func146 rfl Tryz.ntmps146 rfl (by simp) [_] rfl fun E hE => ?_
  obtain ⟨h1, h2, h3, h4⟩ := h
  unfold innerOk
  dsimp only at h1 h2 h3 h4 ⊢
  have c1 := a_fancheck ks ps
  have c2 := a_bufcheck ms h4
  by_cases c : es.length = 0
  · rw [decide_eq_true c]
    cases q : fanOkBy keyCmp ks ps with
    | false =>
      rw [q] at c1
      have d1 := acall Tryz.func148 (c1) (by decide +kernel) (by decide +kernel)
      refine wI ?_
      exact fin ⟨res_of rfl rfl rfl, trivial⟩
    | true =>
      rw [q] at c1
      have d1 := acall Tryz.func148 (c1) (by decide +kernel) (by decide +kernel)
      have d2 := acall Tryz.func149 (c2) (by decide +kernel) (by decide +kernel)
      refine wI ?_
      exact fin ⟨res_of rfl rfl rfl, trivial⟩
  · rw [decide_eq_false c]
    refine wI ?_
    exact fin ⟨res_of rfl rfl rfl, trivial⟩
set_option maxRecDepth 100000 in
set_option maxHeartbeats 4000000 in
theorem a_leafbytesM (n : Nd) (h : n.Sm) (hb : EBd n.es) : AFn Tryz.prog 142 [n.av] (intA (eSum n.es)) := by
  refine AFn_intro Tryz.func142 rfl Tryz.ntmps142 rfl (by simp) [_] rfl fun E hE => ?_
  have d1 := acall Tryz.func100 (a_leafbytes n.es hb h.es) (by decide +kernel) (by decide +kernel)
  refine wI ?_
  exact fin ⟨res_of rfl rfl rfl, trivial⟩
set_option maxRecDepth 100000 in
set_option maxHeartbeats 4000000 in
theorem a_innerbytesM (n : Nd) (h : n.Sm) : AFn Tryz.prog 145 [n.av] (intA (bSum n.ms)) := by
  refine AFn_intro Tryz.func145 rfl Tryz.ntmps145 rfl (by simp) [_] rfl fun E hE => ?_
  have d1 := acall Tryz.func147 (a_bufbytes n.ms h.ms) (by decide +kernel) (by decide +kernel)
  refine wI ?_
  exact fin ⟨res_of rfl rfl rfl, trivial⟩
set_option maxRecDepth 100000 in
set_option maxHeartbeats 4000000 in
theorem a_of_leaf (es : List Ent) (ks : List Int) (ps : List Key) (ms : List Msg) : AFn Tryz.prog 61 [Nd.av ⟨true, es, ks, ps, ms⟩] (.ifc 101 (Nd.av ⟨true, es, ks, ps, ms⟩)) := by
  dsimp only [Nd.av]
  refine AFn_intro Tryz.func61 rfl Tryz.ntmps61 rfl (by simp) [_] rfl fun E hE => ?_
  refine wI ?_
  exact fin ⟨res_of rfl rfl rfl, trivial⟩
set_option maxRecDepth 100000 in
set_option maxHeartbeats 4000000 in
theorem a_of_inner (es : List Ent) (ks : List Int) (ps : List Key) (ms : List Msg) : AFn Tryz.prog 61 [Nd.av ⟨false, es, ks, ps, ms⟩] (.ifc 102 (Nd.av ⟨false, es, ks, ps, ms⟩)) := by
  dsimp only [Nd.av]
  refine AFn_intro Tryz.func61 rfl Tryz.ntmps61 rfl (by simp) [_] rfl fun E hE => ?_
  refine wI ?_
  exact fin ⟨res_of rfl rfl rfl, trivial⟩
set_option maxRecDepth 100000 in
set_option maxHeartbeats 4000000 in
theorem a_nodecheck (n : Nd) (h : n.Sm) : AFn Tryz.prog 62 [n.av] (boolA (nodeOk keyCmp n)) := by
  obtain ⟨lf, es, ks, ps, ms⟩ := n
  dsimp only [Nd.av]
  refine AFn_intro Tryz.func62 rfl Tryz.ntmps62 rfl (by simp) [_] rfl fun E hE => ?_
  cases lf with
  | true =>
    have d1 := acall Tryz.func61 (a_of_leaf es ks ps ms) (by decide +kernel) (by decide +kernel)
    have d2 := mcall (t := 101) (name := "orangery/node.right") Tryz.func143 (a_leafright _ h) (by decide +kernel) (by decide +kernel) (by decide +kernel) (by decide +kernel)
    refine wI ?_
    exact fin ⟨res_of rfl rfl rfl, trivial⟩
  | false =>
    have d1 := acall Tryz.func61 (a_of_inner es ks ps ms) (by decide +kernel) (by decide +kernel)
    have d2 := mcall (t := 102) (name := "orangery/node.right") Tryz.func146 (a_innerright _ h) (by decide +kernel) (by decide +kernel) (by decide +kernel) (by decide +kernel)
    refine wI ?_
    exact fin ⟨res_of rfl rfl rfl, trivial⟩
set_option maxRecDepth 100000 in
set_option maxHeartbeats 4000000 in
theorem a_nodebytes (n : Nd) (h : n.Sm) (hb : n.leaf = true → EBd n.es) : AFn Tryz.prog 63 [n.av] (intA (ndBytes n)) := by
  obtain ⟨lf, es, ks, ps, ms⟩ := n
  dsimp only [Nd.av]
  refine AFn_intro Tryz.func63 rfl Tryz.ntmps63 rfl (by simp) [_] rfl fun E hE => ?_
  cases lf with
  | true =>
    have d1 := acall Tryz.func61 (a_of_leaf es ks ps ms) (by decide +kernel) (by decide +kernel)
    have d2 := mcall (t := 101) (name := "orangery/node.bytes") Tryz.func142 (a_leafbytesM _ h (hb rfl)) (by decide +kernel) (by decide +kernel) (by decide +kernel) (by decide +kernel)
    refine wI ?_
    exact fin ⟨res_of rfl rfl rfl, trivial⟩
  | false =>
    have d1 := acall Tryz.func61 (a_of_inner es ks ps ms) (by decide +kernel) (by decide +kernel)
    have d2 := mcall (t := 102) (name := "orangery/node.bytes") Tryz.func145 (a_innerbytesM _ h) (by decide +kernel) (by decide +kernel) (by decide +kernel) (by decide +kernel)
    refine wI ?_
    exact fin ⟨res_of rfl rfl rfl, trivial⟩
set_option maxRecDepth 100000 in
set_option maxHeartbeats 4000000 in
theorem a_nodefits (n : Nd) (h : n.Sm) : AFn Tryz.prog 34 [n.av] (boolA (nodeFits n)) := by
  refine AFn_intro Tryz.func34 rfl Tryz.ntmps34 rfl (by simp) [_] rfl fun E hE => ?_
  have c1 := a_nodecheck n h
  have c2 := fun hb => a_nodebytes n h hb
  unfold nodeFits
  have hq := @nodeOk_ebd n
  cases q : nodeOk keyCmp n with
  | false =>
    rw [q] at c1
    have e1 := acall Tryz.func62 (c1) (by decide +kernel) (by decide +kernel)
    obtain ⟨lf, es, ks, ps, ms⟩ := n
    cases lf with
    | true =>
      have d1 := acall Tryz.func61 (a_of_leaf es ks ps ms) (by decide +kernel) (by decide +kernel)
      refine wI ?_
      exact fin ⟨res_of rfl rfl rfl, trivial⟩
    | false =>
      have d1 := acall Tryz.func61 (a_of_inner es ks ps ms) (by decide +kernel) (by decide +kernel)
      refine wI ?_
      exact fin ⟨res_of rfl rfl rfl, trivial⟩
  | true =>
    rw [q] at c1
    have c3 := c2 (hq q)
    have e1 := acall Tryz.func62 (c1) (by decide +kernel) (by decide +kernel)
    have e2 := acall Tryz.func63 (c3) (by decide +kernel) (by decide +kernel)
    obtain ⟨lf, es, ks, ps, ms⟩ := n
    cases lf with
    | true =>
      have d1 := acall Tryz.func61 (a_of_leaf es ks ps ms) (by decide +kernel) (by decide +kernel)
      refine wI ?_
      exact fin ⟨res_of rfl rfl rfl, trivial⟩
    | false =>
      have d1 := acall Tryz.func61 (a_of_inner es ks ps ms) (by decide +kernel) (by decide +kernel)
      refine wI ?_
      exact fin ⟨res_of rfl rfl rfl, trivial⟩
set_option maxRecDepth 100000 in
set_option maxHeartbeats 4000000 in
theorem a_ref09check (n : Nd) (h : n.Sm) : AFn Tryz.prog 41 [n.av] (boolA (nodeOk keyCmp n)) := by
  rw [← nodeOk_ref]
  obtain ⟨lf, es, ks, ps, ms⟩ := n
  dsimp only [Nd.av]
  refine AFn_intro Tryz.func41 rfl Tryz.ntmps41 rfl (by simp) [_] rfl fun E hE => ?_
  obtain ⟨h1, h2, h3, h4⟩ := h
  unfold nodeOk leafOk innerOk
  dsimp only at h1 h2 h3 h4 ⊢
  cases lf with
  | true =>
    rw [if_pos rfl]
    have c1 := a_ref07check es h1
    cases q : entsOkB refCmp es with
    | false =>
      rw [q] at c1
      have d1 := acall Tryz.func72 (c1) (by decide +kernel) (by decide +kernel)
      refine wI ?_
      exact fin ⟨res_of rfl rfl rfl, trivial⟩
    | true =>
      rw [q] at c1
      have d1 := acall Tryz.func72 (c1) (by decide +kernel) (by decide +kernel)
      by_cases e1 : ks.length = 0
      · by_cases e2 : ps.length = 0
        · by_cases e3 : ms.length = 0
          · rw [decide_eq_true (by omega : ks.length + ps.length + ms.length = 0)]
            refine wI ?_
            exact fin ⟨res_yes rfl (by omega), trivial⟩
          · rw [decide_eq_false (by omega : ¬ ks.length + ps.length + ms.length = 0)]
            refine wI ?_
            exact fin ⟨res_no rfl (by omega), trivial⟩
        · rw [decide_eq_false (by omega : ¬ ks.length + ps.length + ms.length = 0)]
          refine wI ?_
          exact fin ⟨res_of rfl rfl rfl, trivial⟩
      · rw [decide_eq_false (by omega : ¬ ks.length + ps.length + ms.length = 0)]
        refine wI ?_
        exact fin ⟨res_of rfl rfl rfl, trivial⟩
  | false =>
    rw [if_neg (by simp)]
    have c1 := a_reffancheck ks ps
    have c2 := a_ref06check ms h4
    by_cases c : es.length = 0
    · rw [decide_eq_true c]
      cases q : fanOkBy refCmp ks ps with
      | false =>
        rw [q] at c1
        have d1 := acall Tryz.func73 (c1) (by decide +kernel) (by decide +kernel)
        refine wI ?_
        exact fin ⟨res_of rfl rfl rfl, trivial⟩
      | true =>
        rw [q] at c1
        have d1 := acall Tryz.func73 (c1) (by decide +kernel) (by decide +kernel)
        have d2 := acall Tryz.func74 (c2) (by decide +kernel) (by decide +kernel)
        refine wI ?_
        exact fin ⟨res_of rfl rfl rfl, trivial⟩
    · rw [decide_eq_false c]
      refine wI ?_
      exact fin ⟨res_of rfl rfl rfl, trivial⟩
set_option maxRecDepth 100000 in
set_option maxHeartbeats 4000000 in
theorem a_ref09bytes (n : Nd) (h : n.Sm) (hb : n.leaf = true → EBd n.es) : AFn Tryz.prog 42 [n.av] (intA (ndBytes n)) := by
  obtain ⟨lf, es, ks, ps, ms⟩ := n
  dsimp only [Nd.av]
  refine AFn_intro Tryz.func42 rfl Tryz.ntmps42 rfl (by simp) [_] rfl fun E hE => ?_
  cases lf with
  | true =>
    have d1 := acall Tryz.func64 (a_ref07bytes es (hb rfl) h.es) (by decide +kernel) (by decide +kernel)
    refine wI ?_
    exact fin ⟨res_of rfl rfl rfl, trivial⟩
  | false =>
    have d1 := acall Tryz.func67 (a_ref06bytes ms h.ms) (by decide +kernel) (by decide +kernel)
    refine wI ?_
    exact fin ⟨res_of rfl rfl rfl, trivial⟩
end Go.Proofs.YtonjbnoeoececaaGreat

namespace Go.Proofs.YtonjbnoeoececaaGreat
open Go Go.RowKit
set_option linter.unusedVariables false
set_option linter.unusedSimpArgs false
set_option maxRecDepth 100000

theorem part_le (l : List Msg) (cuts : List Key) (n : Nat) : (bfPart l cuts n).length ≤ l.length := part_len l cuts n
attribute [local irreducible] OpOK AWops AW CondB Go2 AFn thenA inBlockA noGotoA orderOk wantedA
set_option maxRecDepth 100000 in
set_option maxHeartbeats 4000000 in
theorem a_refsame (a b : Nd) (h : a.Sm) : AFn Tryz.prog 40 [a.av, b.av] (boolA (decide (a = b))) := by
  obtain ⟨l1, es1, ks1, ps1, ms1⟩ := a
  obtain ⟨l2, es2, ks2, ps2, ms2⟩ := b
  dsimp only [Nd.av]
  refine AFn_intro Tryz.func40 rfl Tryz.ntmps40 rfl (by simp) [_] rfl fun E hE => ?_
  obtain ⟨h1, h2, h3, h4⟩ := h
  dsimp only at h1 h2 h3 h4
  by_cases q0 : l1 = l2
  · have c0 := a_sameEnts es1 es2 (by omega)
    by_cases q1 : es1 = es2
    · rw [decide_eq_true q1] at c0
      have d0 := acall Tryz.func68 (c0) (by decide +kernel) (by decide +kernel)
      have c1 := a_sameInts ks1 ks2 (by omega)
      by_cases q2 : ks1 = ks2
      · rw [decide_eq_true q2] at c1
        have d1 := acall Tryz.func69 (c1) (by decide +kernel) (by decide +kernel)
        have c2 := a_sameKeys ps1 ps2 (by omega)
        by_cases q3 : ps1 = ps2
        · rw [decide_eq_true q3] at c2
          have d2 := acall Tryz.func70 (c2) (by decide +kernel) (by decide +kernel)
          have c3 := a_sameMsgs ms1 ms2 (by omega)
          by_cases q4 : ms1 = ms2
          · rw [decide_eq_true q4] at c3
            have d3 := acall Tryz.func71 (c3) (by decide +kernel) (by decide +kernel)
            subst q0 q1 q2 q3 q4
            rw [decide_eq_true rfl]
            cases l1
            · refine wI ?_
              exact fin ⟨res_of rfl rfl rfl, trivial⟩
            · refine wI ?_
              exact fin ⟨res_of rfl rfl rfl, trivial⟩
          · rw [decide_eq_false q4] at c3
            have d3 := acall Tryz.func71 (c3) (by decide +kernel) (by decide +kernel)
            rw [show decide ((⟨l1, es1, ks1, ps1, ms1⟩ : Nd) = ⟨l2, es2, ks2, ps2, ms2⟩) = false from decide_eq_false fun k => q4 (by injection k)]
            subst q0
            cases l1
            · refine wI ?_
              exact fin ⟨res_of rfl rfl rfl, trivial⟩
            · refine wI ?_
              exact fin ⟨res_of rfl rfl rfl, trivial⟩
        · rw [decide_eq_false q3] at c2
          have d2 := acall Tryz.func70 (c2) (by decide +kernel) (by decide +kernel)
          rw [show decide ((⟨l1, es1, ks1, ps1, ms1⟩ : Nd) = ⟨l2, es2, ks2, ps2, ms2⟩) = false from decide_eq_false fun k => q3 (by injection k)]
          subst q0
          cases l1
          · refine wI ?_
            exact fin ⟨res_of rfl rfl rfl, trivial⟩
          · refine wI ?_
            exact fin ⟨res_of rfl rfl rfl, trivial⟩
      · rw [decide_eq_false q2] at c1
        have d1 := acall Tryz.func69 (c1) (by decide +kernel) (by decide +kernel)
        rw [show decide ((⟨l1, es1, ks1, ps1, ms1⟩ : Nd) = ⟨l2, es2, ks2, ps2, ms2⟩) = false from decide_eq_false fun k => q2 (by injection k)]
        subst q0
        cases l1
        · refine wI ?_
          exact fin ⟨res_of rfl rfl rfl, trivial⟩
        · refine wI ?_
          exact fin ⟨res_of rfl rfl rfl, trivial⟩
    · rw [decide_eq_false q1] at c0
      have d0 := acall Tryz.func68 (c0) (by decide +kernel) (by decide +kernel)
      rw [show decide ((⟨l1, es1, ks1, ps1, ms1⟩ : Nd) = ⟨l2, es2, ks2, ps2, ms2⟩) = false from decide_eq_false fun k => q1 (by injection k)]
      subst q0
      cases l1
      · refine wI ?_
        exact fin ⟨res_of rfl rfl rfl, trivial⟩
      · refine wI ?_
        exact fin ⟨res_of rfl rfl rfl, trivial⟩
  · rw [show decide ((⟨l1, es1, ks1, ps1, ms1⟩ : Nd) = ⟨l2, es2, ks2, ps2, ms2⟩) = false from decide_eq_false fun k => q0 (by injection k)]
    cases l1 <;> cases l2 <;> first | exact absurd rfl q0 | skip
    · refine wI ?_
      exact fin ⟨res_of rfl rfl rfl, trivial⟩
    · refine wI ?_
      exact fin ⟨res_of rfl rfl rfl, trivial⟩
end Go.Proofs.YtonjbnoeoececaaGreat

namespace Go.Proofs.YtonjbnoeoececaaGreat
open Go Go.RowKit
set_option linter.unusedVariables false
set_option linter.unusedSimpArgs false
set_option maxRecDepth 100000

attribute [local irreducible] OpOK AWops AW CondB Go2 AFn thenA inBlockA noGotoA orderOk wantedA
set_option maxRecDepth 100000 in
set_option maxHeartbeats 4000000 in
theorem a_ref09fits (n : Nd) (h : n.Sm) : AFn Tryz.prog 15 [n.av] (boolA (nodeFits n)) := by
  have k1 := a_ref09check n h
  have k2 := fun hb => a_ref09bytes n h hb
  have hq := @nodeOk_ebd n
  obtain ⟨lf, es, ks, ps, ms⟩ := n
  dsimp only [Nd.av] at k1 k2 ⊢
  refine AFn_intro Tryz.func15 rfl Tryz.ntmps15 rfl (by simp) [_] rfl fun E hE => ?_
  have hnt : (!true) = false := rfl
  have hnf : (!false) = true := rfl
  cases q : nodeOk keyCmp ⟨lf, es, ks, ps, ms⟩ with
  | false =>
    rw [q] at k1
    have d1 := acall Tryz.func41 (k1) (by decide +kernel) (by decide +kernel)
    rw [show nodeFits ⟨lf, es, ks, ps, ms⟩ = false from by unfold nodeFits; rw [q]; rfl]
    refine wI ?_
    exact fin ⟨res_of rfl rfl rfl, trivial⟩
  | true =>
    have k3 := k2 (hq q)
    clear k2 hq
    rw [q] at k1
    have d1 := acall Tryz.func41 (k1) (by decide +kernel) (by decide +kernel)
    cases lf with
    | true =>
      rw [show ndBytes ⟨true, es, ks, ps, ms⟩ = eSum es from rfl] at k3
      rw [show nodeFits ⟨true, es, ks, ps, ms⟩ = decide (eSum es ≤ 248) from by unfold nodeFits; rw [q]; rfl]
      generalize eSum es = B at k3 ⊢
      have d2 := acall Tryz.func42 (k3) (by decide +kernel) (by decide +kernel)
      by_cases c : B ≤ 248
      · rw [decide_eq_true c]
        refine wI ?_
        exact fin ⟨res_of rfl rfl rfl, trivial⟩
      · rw [decide_eq_false c]
        refine wI ?_
        exact fin ⟨res_of rfl rfl rfl, trivial⟩
    | false =>
      rw [show ndBytes ⟨false, es, ks, ps, ms⟩ = bSum ms from rfl] at k3
      rw [show nodeFits ⟨false, es, ks, ps, ms⟩ = decide (bSum ms ≤ 205) from by unfold nodeFits; rw [q]; rfl]
      generalize bSum ms = B at k3 ⊢
      have d2 := acall Tryz.func42 (k3) (by decide +kernel) (by decide +kernel)
      refine wI ?_
      exact fin ⟨res_of rfl rfl rfl, trivial⟩
end Go.Proofs.YtonjbnoeoececaaGreat

namespace Go.Proofs.YtonjbnoeoececaaGreat
open Go Go.RowKit
set_option linter.unusedVariables false
set_option linter.unusedSimpArgs false
set_option maxRecDepth 100000

theorem run_part_of {P : Program} {t : TypeId} {agg : Bool} {n : Nat} (ht : TyOf P t agg n) (w : World) (c1 c2 c3 : List Value) (hn : c2.length = n) (h1 : agg = false → n = 1) :
    (part t (c1 ++ c2 ++ c3).toArray c1.length).run P w = .ok (if agg then .agg c2.toArray else c2.headD undef) w := by
  have hz := run_sizeOf_of ht w
  obtain ⟨d, hu, hd, hi⟩ := ht
  have hagg : (isAgg t).run P w = .ok agg w := by
    unfold isAgg
    rw [Sem.run_bind, run_underlying hu w]
    subst hd
    cases d <;> rfl
  unfold part
  rw [Sem.run_bind, hagg, Result.andThen_ok]
  cases agg
  · obtain rfl := h1 rfl
    obtain ⟨v, rfl⟩ : ∃ v, c2 = [v] := by
      match c2, hn with
      | [v], _ => exact ⟨v, rfl⟩
    simp
  · have e : (c1 ++ c2 ++ c3).toArray.extract c1.length (c1.length + n) = c2.toArray := by
      apply Array.ext'
      simp [List.extract_eq_take_drop, List.drop_append, List.take_append, ← hn]
    simp only [if_true, Sem.run_bind, hz, Result.andThen_ok, e]
    rfl
section
variable {P : Program} {E : Env} {nt : Nat} {ops : Array Oper} {T : Nat → Option AV} {H : Hp} {d : Option Nat} {ty : TypeId} {pos : String} {af : Array Edge} {gd : Option (Nat × Bool)} (tb : Tab P)
theorem ok_fldv {x : Operand} {s : TypeId} {f n o : Nat} {fs : List (Nat × Nat × Bool)} {y z : AV} (hd : dOk nt d = true) (hx : evalO T x = some y) (hs : tb.ti s = some (.st n fs)) (hf : fldA fs y f = some (o, z)) (hg : fs[f]? = some (o, sizeA z, isAggA z)) :
    OpOK P E nt ops ⟨d, .field s x f, ty, pos, af, gd⟩ T H [] ⟨z, []⟩ :=
  ok_val hd fun B T' H' a w r ht hh => by
    have h1 := r.eval ((ht x (by simp [Op.operands])).trans hx)
    obtain ⟨m, ys, g, rfl, k1, k2, k3, k4⟩ := fldA_some hf
    rw [Rdv_not (by simp)] at h1
    obtain ⟨c, h2, h3⟩ := h1
    simp only [Rd] at h2
    obtain ⟨h2', h4⟩ := h2
    obtain ⟨c1, c2, c3, rfl, m1, m2, _⟩ := Rds_at h4 k1
    obtain ⟨_, F, hu, hF⟩ := tb.ok s _ hs
    obtain ⟨fd, hfd, hfo, hft⟩ := fields_at hF f o (sizeA z) _ hg
    have hp := run_part_of hft w c1 c2 c3 (Rd_len m2) size1
    rw [pack_if m2] at hp
    rw [m1, ← k3] at hp
    refine ⟨pack z c2, ?_, by rw [Rdv_not (Rd_notup m2)]; exact ⟨c2, m2, rfl⟩⟩
    have e : pack (.agg m ys) (c1 ++ c2 ++ c3) = .agg (c1 ++ c2 ++ c3).toArray := rfl
    simp only [execOp, h3, e, Instr.field, Sem.run_bind, run_underlying hu, hfd, asAgg, Result.andThen_ok, Sem.run_pure, hfo, hp]
theorem ok_idxv {x ix : Operand} {t e : TypeId} {tn len es : Nat} {ea : Bool} {m : Nat} {xs : List AV} {k : IntKind} {i : Int} {y : AV} (hd : dOk nt d = true) (hs : tb.ti t = some (.arr tn len es ea e)) (hx : evalO T x = some (.arr m es xs)) (hi : evalO T ix = some (.v (.int k i)))
    (h0 : 0 ≤ i) (hl : i < (len : Int)) (hy : xs[i.toNat]? = some y) (hg : ea = isAggA y) :
    OpOK P E nt ops ⟨d, .index t x ix, ty, pos, af, gd⟩ T H [] ⟨y, []⟩ :=
  ok_val hd fun B T' H' a w r ht hh => by
    have h1 := r.eval ((ht x (by simp [Op.operands])).trans hx)
    have hj := r.evalv ((ht ix (by simp [Op.operands])).trans hi)
    rw [Rdv_not (by simp)] at h1
    obtain ⟨c, h2, h3⟩ := h1
    simp only [Rd] at h2
    obtain ⟨h4, h5⟩ := h2
    obtain ⟨c1, c2, c3, rfl, m1, mn, m2, _⟩ := Rdu_at h5 hy
    obtain ⟨_, hu, he⟩ := tb.ok t _ hs
    have hz := run_sizeOf_of he w
    subst hg
    have hes : es = sizeA y := by rw [← mn]; exact Rd_len m2
    have hp := run_part_of he w c1 c2 c3 mn (by intro h; rw [hes]; exact size1 h)
    rw [pack_if m2] at hp
    rw [m1] at hp
    refine ⟨pack y c2, ?_, by rw [Rdv_not (Rd_notup m2)]; exact ⟨c2, Rd_free _ m2, rfl⟩⟩
    have h3' : a.eval x = .agg (c1 ++ c2 ++ c3).toArray := h3
    generalize (c1 ++ c2 ++ c3).toArray = cs at h3' hp
    simp [execOp, h3', hj, Instr.index, asIntOf, run_underlying hu, h0, hl, hz, hp]
end
section
variable {E : Env} {nt : Nat} {ops : Array Oper} {T : Nat → Option AV} {H : Hp} {d : Option Nat} {ty : TypeId} {pos : String} {af : Array Edge} {gd : Option (Nat × Bool)}
theorem o_fldv {x : Operand} {s : TypeId} {f n o : Nat} {fs : List (Nat × Nat × Bool)} {y z : AV} (hd : dOk nt d = true) (hx : evalO T x = some y) (hs : tabT.ti s = some (.st n fs)) (hf : fldA fs y f = some (o, z)) (hg : fs[f]? = some (o, sizeA z, isAggA z)) :
    OpOK Tryz.prog E nt ops ⟨d, .field s x f, ty, pos, af, gd⟩ T H [] ⟨z, []⟩ := ok_fldv tabT hd hx hs hf hg
theorem o_idxv {x ix : Operand} {t e : TypeId} {tn len es : Nat} {ea : Bool} {m : Nat} {xs : List AV} {k : IntKind} {i : Int} {j : Nat} {y : AV} (hd : dOk nt d = true) (hs : tabT.ti t = some (.arr tn len es ea e)) (hx : evalO T x = some (.arr m es xs)) (hi : evalO T ix = some (.v (.int k i)))
    (hj : natOf i = some j) (hl : Nat.blt j len = true) (hy : xs[j]? = some y) (hg : ea = isAggA y) :
    OpOK Tryz.prog E nt ops ⟨d, .index t x ix, ty, pos, af, gd⟩ T H [] ⟨y, []⟩ := by
  have := natOf_eq hj; subst this
  have hl' : j < len := Nat.le_of_ble_eq_true hl
  exact ok_idxv tabT hd hs hx hi (Int.natCast_nonneg j) (by omega) (by simpa using hy) hg
end
theorem zero_way : ZeroOk Tryz.prog 71 (.agg 2 [.v .nilFunc, .v .nilFunc]) := zero_of (v := .agg #[.nilFunc, .nilFunc]) (n := 2) (by kernel_rfl) fun U w => by
  simp only [Rd, Rds, Value.cells]
  exact ⟨rfl, [_], _, rfl, ⟨rfl, rfl⟩, [_], _, rfl, ⟨rfl, rfl⟩, rfl⟩
theorem zero_ways : ZeroOk Tryz.prog 97 (.arr 4 2 [.agg 2 [.v .nilFunc, .v .nilFunc], .agg 2 [.v .nilFunc, .v .nilFunc]]) := zero_of (v := .agg #[.nilFunc, .nilFunc, .nilFunc, .nilFunc]) (n := 4) (by kernel_rfl) fun U w => by
  simp only [Rd, Rds, Rdu, Value.cells]
  exact ⟨rfl, [_, _], _, rfl, rfl, ⟨rfl, [_], _, rfl, ⟨rfl, rfl⟩, [_], _, rfl, ⟨rfl, rfl⟩, rfl⟩, [_, _], _, rfl, rfl, ⟨rfl, [_], _, rfl, ⟨rfl, rfl⟩, [_], _, rfl, ⟨rfl, rfl⟩, rfl⟩, rfl⟩
theorem wA {Q R : Prop} (k : R) (h : Hid R → Q := by intro kHid; (repeat (first | (first | refine Wend _ ?_ | refine AW_seq ?_ | refine AW_reg ?_ | refine AW_drw mixed ?_ | refine AW_block ?_ | refine AW_scope ?_ | refine thenA_n ?_ | refine blockA_n ?_ | refine blockA_h ?_ | refine scopeA_n ?_ | refine thenA_r ?_ | refine blockA_r ?_ | refine scopeA_r ?_ | refine thenA_e ?_ | refine scopeA_e ?_ | refine blockA_e rfl ?_ | refine AW_exit ?_ | refine AW_ret ?_ | refine AW_skip ?_ | refine AW_c rfl ?_ | with_reducible refine cb_t ?_ | with_reducible refine cb_f ?_ | with_reducible refine cb_yes (by first | assumption | omega) ?_ | with_reducible refine cb_no (by first | assumption | omega) ?_ | refine And.intro (by decide +kernel) ?_) | (first | (apply Wv; (focus (first | exact step_ok rfl rfl | exact o_idx rfl rfl rfl rfl (by first | assumption | omega | decide) | exact o_idx3 rfl rfl rfl rfl (by first | assumption | omega | decide) | exact o_idx2 rfl rfl rfl rfl rfl (by first | assumption | omega | decide) | exact o_idxr rfl rfl rfl rfl rfl rfl | exact o_lenm rfl rfl rfl | exact o_len rfl rfl rfl | exact o_len0 rfl rfl rfl | exact o_lens rfl rfl rfl | exact o_lent rfl rfl | exact o_add1 rfl rfl rfl (by omega) | exact o_addn rfl rfl rfl (by omega) | exact o_add rfl rfl rfl (by omega) | exact o_sub1 rfl rfl rfl (by omega) | exact o_sub rfl rfl rfl (by omega) | exact o_mul rfl rfl rfl (by omega) | exact o_rem rfl rfl rfl (by omega) | exact ok_rem rfl rfl rfl (by decide) rfl | exact o_eqKey rfl rfl rfl | exact o_neKey rfl rfl rfl | exact o_eqVl rfl rfl rfl | exact o_neVl rfl rfl rfl | exact o_eqEnt rfl rfl rfl | exact o_neEnt rfl rfl rfl | exact o_eqMsg rfl rfl rfl | exact o_neMsg rfl rfl rfl | exact o_acall rfl rfl rfl rfl (by assumption) | exact o_minn rfl rfl rfl | exact o_cutl rfl rfl rfl rfl (by omega) | exact o_cuth rfl rfl rfl rfl (by omega) | exact o_cutl3 rfl rfl rfl rfl (by omega) | exact o_cuth3 rfl rfl rfl rfl (by omega) | exact o_cutl2 rfl rfl rfl rfl rfl (by omega) | exact o_cuth2 rfl rfl rfl rfl rfl (by omega) | exact o_cutlh2 rfl rfl rfl rfl rfl rfl rfl (by omega) (by omega) | exact e_bld rfl rfl rfl | exact e_bldk rfl rfl | exact z_bld0 rfl rfl rfl rfl rfl | exact z_bld rfl rfl rfl rfl rfl rfl rfl | exact o_addu rfl rfl rfl | exact o_mulu rfl rfl rfl (by decide) | exact o_convb ⟨_, Tryz.underlying3⟩ Tryz.underlying5 rfl rfl | exact o_convu ⟨_, Tryz.underlying3⟩ Tryz.underlying23 rfl rfl | exact o_convs Tryz.underlying89 Tryz.underlying5 Tryz.underlying9 rfl rfl | exact o_idxs rfl rfl rfl rfl (by first | assumption | omega) | exact o_fldv rfl rfl rfl rfl rfl | exact o_idxv rfl rfl rfl rfl rfl rfl rfl rfl | exact o_bld zero_way rfl rfl rfl rfl rfl rfl rfl | exact o_blda zero_ways rfl rfl rfl rfl rfl rfl rfl rfl rfl | exact o_callv rfl rfl rfl rfl rfl rfl (by assumption) | exact o_mkifc rfl rfl rfl (by decide +kernel) | exact o_asy rfl rfl rfl (by decide +kernel) | exact o_asn rfl rfl rfl rfl (by decide +kernel) (by decide +kernel) | exact o_minv rfl rfl rfl rfl rfl rfl (by assumption) | exact z_blda rfl rfl rfl rfl rfl rfl rfl rfl rfl | exact o_idxa rfl rfl rfl rfl rfl rfl | exact o_idxra rfl rfl rfl rfl rfl rfl rfl | exact o_quo2 rfl rfl rfl (by omega) | exact o_quo rfl rfl rfl (by omega))); (focus (first | exact want_n | exact want_g rfl (by with_reducible rfl)))) | (apply Wb; (focus (first | exact o_box rfl rfl rfl rfl | exact o_app rfl rfl rfl rfl rfl (by first | exact o_many rfl | exact o_one _ _ rfl) (by first | omega | (simp; omega) | simp) (by first | omega | (simp; omega) | simp) | exact o_appn rfl rfl rfl rfl rfl (by first | exact o_many rfl | exact o_one _ _ rfl) (by first | omega | (simp; omega) | simp) (by first | omega | (simp; omega) | simp) | exact o_app1 rfl rfl rfl rfl rfl (by first | exact o_many rfl | exact o_one _ _ rfl) (by exact rfl) (by first | omega | (simp; omega) | simp) (by first | omega | (simp; omega) | simp) | exact o_app0 rfl rfl rfl rfl rfl (by first | exact o_many rfl | exact o_one _ _ rfl) (by first | omega | (simp; omega) | simp) (by first | omega | (simp; omega) | simp) | exact o_bsl0 rfl rfl rfl | exact z_bsll rfl rfl rfl rfl rfl rfl rfl rfl rfl | exact z_alloc rfl rfl rfl | exact o_alloc zero_way rfl rfl)); (focus (first | exact want_n | exact want_g rfl (by with_reducible rfl)))) | (apply Ws; (focus (exact ok_store tabT (d := none) rfl rfl rfl rfl rfl rfl rfl rfl rfl rfl)); (focus (first | exact want_n | exact want_g rfl (by with_reducible rfl)))) | (refine Wskip (by first | exact want_f rfl (by with_reducible exact b_nt) | exact want_f rfl (by with_reducible exact b_nf) | exact want_t rfl) rfl ?_) | refine Wgt rfl rfl (by first | assumption | omega | exact rfl) ?_ | refine Wgf rfl rfl (by first | assumption | omega | exact rfl) ?_ | (refine Wgb rfl rfl (by with_reducible assumption) ?_) | (refine cb_is _ (by assumption) ?_)))); exact kHid.out) : Q := h ⟨k⟩
end Go.Proofs.YtonjbnoeoececaaGreat

namespace Go.Proofs.YtonjbnoeoececaaGreat
open Go Go.RowKit
set_option linter.unusedVariables false
set_option linter.unusedSimpArgs false
set_option maxRecDepth 100000

def wayL : AV := .agg 2 [.fn (.func 60) [] [], .fn (.func 46) [] []]
def wayI : AV := .agg 2 [.fn (.func 59) [] [], .fn (.func 51) [] []]
theorem take_sm {n : Nd} (h : n.Gd) (l : List Msg) (hl : l.length ≤ 100000) : (takeN n l).Sm := by
  have h1 := h.es; have h2 := h.ks; have h3 := h.ps; have h4 := h.ms
  have h5 := all_len l n.es
  have h6 := ball_len l n.ms
  unfold takeN
  split
  · exact ⟨by show (lfAll n.es l).length ≤ _; omega, by show n.ks.length ≤ _; omega, by show n.ps.length ≤ _; omega, by show n.ms.length ≤ _; omega⟩
  · exact ⟨by show n.es.length ≤ _; omega, by show n.ks.length ≤ _; omega, by show n.ps.length ≤ _; omega, by show (bfAll n.ms l).length ≤ _; omega⟩
theorem Nd.Gd.Sm {n : Nd} (h : n.Gd) : n.Sm := ⟨h.sm.1, h.sm.2.1, h.sm.2.2.1, h.sm.2.2.2⟩
attribute [local irreducible] OpOK AWops AW CondB Go2 AFn thenA inBlockA noGotoA orderOk wantedA
set_option maxRecDepth 100000 in
set_option maxHeartbeats 4000000 in
theorem a_takeinner (n : Nd) (h : n.Gd) (hl : n.leaf = false) (l : List Msg) (hm : ∀ m ∈ l, m.ok = true) (hlen : l.length ≤ 100000) : AFn Tryz.prog 59 [n.av, msgsA l] (takeN n l).av := by
  have h4 := h.ms
  have c1 := a_bufall n.ms l h.bf hm (by omega) (by omega)
  obtain ⟨lf, es, ks, ps, ms⟩ := n
  dsimp only at hl c1 h4
  subst hl
  rw [show takeN ⟨false, es, ks, ps, ms⟩ l = ⟨false, es, ks, ps, bfAll ms l⟩ from by unfold takeN; rw [if_neg (by simp)]]
  dsimp only [Nd.av]
  refine AFn_intro Tryz.func59 rfl Tryz.ntmps59 rfl (by simp) [_] rfl fun E hE => ?_; have hnt : (!true) = false := rfl; have hnf : (!false) = true := rfl
  have d1 := acall Tryz.func91 (c1) (by decide +kernel) (by decide +kernel)
  refine wA ?_
  exact fin ⟨res_var rfl rfl rfl rfl, trivial⟩
set_option maxRecDepth 100000 in
set_option maxHeartbeats 4000000 in
theorem a_takeleaf (n : Nd) (h : n.Gd) (hl : n.leaf = true) (l : List Msg) (hm : ∀ m ∈ l, m.ok = true) (hlen : l.length ≤ 100000) : AFn Tryz.prog 60 [n.av, msgsA l] (takeN n l).av := by
  have h4 := h.es
  have c1 := a_leafall n.es l h.lf hm (by omega) (by omega)
  obtain ⟨lf, es, ks, ps, ms⟩ := n
  dsimp only at hl c1 h4
  subst hl
  rw [show takeN ⟨true, es, ks, ps, ms⟩ l = ⟨true, lfAll es l, ks, ps, ms⟩ from by unfold takeN; rw [if_pos rfl]]
  dsimp only [Nd.av]
  refine AFn_intro Tryz.func60 rfl Tryz.ntmps60 rfl (by simp) [_] rfl fun E hE => ?_; have hnt : (!true) = false := rfl; have hnf : (!false) = true := rfl
  have d1 := acall Tryz.func92 (c1) (by decide +kernel) (by decide +kernel)
  refine wA ?_
  exact fin ⟨res_var rfl rfl rfl rfl, trivial⟩
set_option maxRecDepth 100000 in
set_option maxHeartbeats 4000000 in
theorem a_wayleaf (n : Nd) (hl : n.leaf = true) : AFn Tryz.prog 33 [n.av] wayL := by
  obtain ⟨lf, es, ks, ps, ms⟩ := n
  dsimp only at hl
  subst hl
  dsimp only [Nd.av]
  refine AFn_intro Tryz.func33 rfl Tryz.ntmps33 rfl (by simp) [_] rfl fun E hE => ?_; have hnt : (!true) = false := rfl; have hnf : (!false) = true := rfl
  refine wA ?_
  exact fin ⟨res_var rfl rfl rfl rfl, trivial⟩
set_option maxRecDepth 100000 in
set_option maxHeartbeats 4000000 in
theorem a_wayinner (n : Nd) (hl : n.leaf = false) : AFn Tryz.prog 33 [n.av] wayI := by
  obtain ⟨lf, es, ks, ps, ms⟩ := n
  dsimp only at hl
  subst hl
  dsimp only [Nd.av]
  refine AFn_intro Tryz.func33 rfl Tryz.ntmps33 rfl (by simp) [_] rfl fun E hE => ?_; have hnt : (!true) = false := rfl; have hnf : (!false) = true := rfl
  refine wA ?_
  exact fin ⟨res_var rfl rfl rfl rfl, trivial⟩
set_option maxRecDepth 100000 in
set_option maxHeartbeats 4000000 in
theorem a_actinsert (n : Nd) (h : n.Gd) (m : Msg) (hm : m.ok = true) : AFn Tryz.prog 10 [n.av, m.av] (.tup [(insN n m).1.av, boolA (insN n m).2]) := by
  have hm1 : ∀ x ∈ [m], x.ok = true := fun x hx => by rw [List.mem_singleton.1 hx]; exact hm
  have cf := a_nodefits (takeN n [m]) (take_sm h [m] (by simp))
  have ct1 := fun hl => a_takeleaf n h hl [m] hm1 (by simp)
  have ct2 := fun hl => a_takeinner n h hl [m] hm1 (by simp)
  cases q : nodeFits (takeN n [m]) with
  | false =>
    rw [show insN n m = (n, false) from by unfold insN; rw [if_neg (by rw [q]; simp)]]
    rw [q] at cf
    generalize takeN n [m] = x at *
    cases hl : n.leaf with
    | true =>
      have ct := ct1 hl
      have cw := a_wayleaf n hl
      clear ct1 ct2
      refine AFn_intro Tryz.func10 rfl Tryz.ntmps10 rfl (by simp) [_, _] rfl fun E hE => ?_; have hnt : (!true) = false := rfl; have hnf : (!false) = true := rfl
      have d1 := acall Tryz.func33 (cw) (by decide +kernel) (by decide +kernel)
      have d2 := acall Tryz.func60 (ct) (by decide +kernel) (by decide +kernel)
      have d3 := acall Tryz.func34 (cf) (by decide +kernel) (by decide +kernel)
      refine wA ?_
      exact fin ⟨res_var rfl rfl rfl rfl, res_of rfl rfl rfl, trivial⟩
    | false =>
      have ct := ct2 hl
      have cw := a_wayinner n hl
      clear ct1 ct2
      refine AFn_intro Tryz.func10 rfl Tryz.ntmps10 rfl (by simp) [_, _] rfl fun E hE => ?_; have hnt : (!true) = false := rfl; have hnf : (!false) = true := rfl
      have d1 := acall Tryz.func33 (cw) (by decide +kernel) (by decide +kernel)
      have d2 := acall Tryz.func59 (ct) (by decide +kernel) (by decide +kernel)
      have d3 := acall Tryz.func34 (cf) (by decide +kernel) (by decide +kernel)
      refine wA ?_
      exact fin ⟨res_var rfl rfl rfl rfl, res_of rfl rfl rfl, trivial⟩
  | true =>
    rw [show insN n m = (takeN n [m], true) from by unfold insN; rw [if_pos q]]
    rw [q] at cf
    generalize takeN n [m] = x at *
    cases hl : n.leaf with
    | true =>
      have ct := ct1 hl
      have cw := a_wayleaf n hl
      clear ct1 ct2
      refine AFn_intro Tryz.func10 rfl Tryz.ntmps10 rfl (by simp) [_, _] rfl fun E hE => ?_; have hnt : (!true) = false := rfl; have hnf : (!false) = true := rfl
      have d1 := acall Tryz.func33 (cw) (by decide +kernel) (by decide +kernel)
      have d2 := acall Tryz.func60 (ct) (by decide +kernel) (by decide +kernel)
      have d3 := acall Tryz.func34 (cf) (by decide +kernel) (by decide +kernel)
      refine wA ?_
      exact fin ⟨res_var rfl rfl rfl rfl, res_of rfl rfl rfl, trivial⟩
    | false =>
      have ct := ct2 hl
      have cw := a_wayinner n hl
      clear ct1 ct2
      refine AFn_intro Tryz.func10 rfl Tryz.ntmps10 rfl (by simp) [_, _] rfl fun E hE => ?_; have hnt : (!true) = false := rfl; have hnf : (!false) = true := rfl
      have d1 := acall Tryz.func33 (cw) (by decide +kernel) (by decide +kernel)
      have d2 := acall Tryz.func59 (ct) (by decide +kernel) (by decide +kernel)
      have d3 := acall Tryz.func34 (cf) (by decide +kernel) (by decide +kernel)
      refine wA ?_
      exact fin ⟨res_var rfl rfl rfl rfl, res_of rfl rfl rfl, trivial⟩
end Go.Proofs.YtonjbnoeoececaaGreat

namespace Go.Proofs.YtonjbnoeoececaaGreat
open Go Go.RowKit
set_option linter.unusedVariables false
set_option linter.unusedSimpArgs false
set_option maxRecDepth 100000

theorem less_len' (l g : List Msg) : (bfLess l g).length ≤ l.length := List.length_filter_le _ _
attribute [local irreducible] OpOK AWops AW CondB Go2 AFn thenA inBlockA noGotoA orderOk wantedA
set_option maxRecDepth 100000 in
set_option maxHeartbeats 4000000 in
theorem a_refinsert10 (n : Nd) (h : n.Gd) (m : Msg) (hm : m.ok = true) : AFn Tryz.prog 12 [n.av, m.av] (.tup [(insN n m).1.av, boolA (insN n m).2]) := by
  have cf := a_ref09fits (takeN n [m]) (take_sm h [m] (by simp))
  have h1 := h.es
  have h2 := h.ms
  have hk := (Msg.spec hm).2.2.1
  have cl := a_ref07put n.es m h.lf hk (by omega)
  have ci := a_ref06add n.ms m h.bf hk (by omega)
  cases hl : n.leaf with
  | true =>
    have hx : takeN n [m] = ⟨true, lfPut n.es m, n.ks, n.ps, n.ms⟩ := by unfold takeN; rw [if_pos hl, hl]; rfl
    cases q : nodeFits (takeN n [m]) with
    | false =>
      rw [show insN n m = (n, false) from by unfold insN; rw [if_neg (by rw [q]; simp)]]
      rw [q, hx] at cf
      obtain ⟨lf, es, ks, ps, ms⟩ := n
      dsimp only at hl cl ci cf h1 h2
      subst hl
      generalize lfPut es m = X at *
      dsimp only [Nd.av] at cf ⊢
      refine AFn_intro Tryz.func12 rfl Tryz.ntmps12 rfl (by simp) [_, _] rfl fun E hE => ?_; have hnt : (!true) = false := rfl; have hnf : (!false) = true := rfl
      have d2 := acall Tryz.func36 (cl) (by decide +kernel) (by decide +kernel)
      have d3 := acall Tryz.func15 (cf) (by decide +kernel) (by decide +kernel)
      refine wI ?_
      exact fin ⟨res_var rfl rfl rfl rfl, res_of rfl rfl rfl, trivial⟩
    | true =>
      rw [show insN n m = (takeN n [m], true) from by unfold insN; rw [if_pos q]]
      rw [q] at cf
      rw [hx] at cf ⊢
      obtain ⟨lf, es, ks, ps, ms⟩ := n
      dsimp only at hl cl ci cf h1 h2 ⊢
      subst hl
      generalize lfPut es m = X at *
      dsimp only [Nd.av] at cf ⊢
      refine AFn_intro Tryz.func12 rfl Tryz.ntmps12 rfl (by simp) [_, _] rfl fun E hE => ?_; have hnt : (!true) = false := rfl; have hnf : (!false) = true := rfl
      have d2 := acall Tryz.func36 (cl) (by decide +kernel) (by decide +kernel)
      have d3 := acall Tryz.func15 (cf) (by decide +kernel) (by decide +kernel)
      refine wI ?_
      exact fin ⟨res_var rfl rfl rfl rfl, res_of rfl rfl rfl, trivial⟩
  | false =>
    have hx : takeN n [m] = ⟨false, n.es, n.ks, n.ps, bfAdd n.ms m⟩ := by unfold takeN; rw [if_neg (by rw [hl]; simp), hl]; rfl
    cases q : nodeFits (takeN n [m]) with
    | false =>
      rw [show insN n m = (n, false) from by unfold insN; rw [if_neg (by rw [q]; simp)]]
      rw [q, hx] at cf
      obtain ⟨lf, es, ks, ps, ms⟩ := n
      dsimp only at hl cl ci cf h1 h2
      subst hl
      generalize bfAdd ms m = X at *
      dsimp only [Nd.av] at cf ⊢
      refine AFn_intro Tryz.func12 rfl Tryz.ntmps12 rfl (by simp) [_, _] rfl fun E hE => ?_; have hnt : (!true) = false := rfl; have hnf : (!false) = true := rfl
      have d2 := acall Tryz.func37 (ci) (by decide +kernel) (by decide +kernel)
      have d3 := acall Tryz.func15 (cf) (by decide +kernel) (by decide +kernel)
      refine wI ?_
      exact fin ⟨res_var rfl rfl rfl rfl, res_of rfl rfl rfl, trivial⟩
    | true =>
      rw [show insN n m = (takeN n [m], true) from by unfold insN; rw [if_pos q]]
      rw [q] at cf
      rw [hx] at cf ⊢
      obtain ⟨lf, es, ks, ps, ms⟩ := n
      dsimp only at hl cl ci cf h1 h2 ⊢
      subst hl
      generalize bfAdd ms m = X at *
      dsimp only [Nd.av] at cf ⊢
      refine AFn_intro Tryz.func12 rfl Tryz.ntmps12 rfl (by simp) [_, _] rfl fun E hE => ?_; have hnt : (!true) = false := rfl; have hnf : (!false) = true := rfl
      have d2 := acall Tryz.func37 (ci) (by decide +kernel) (by decide +kernel)
      have d3 := acall Tryz.func15 (cf) (by decide +kernel) (by decide +kernel)
      refine wI ?_
      exact fin ⟨res_var rfl rfl rfl rfl, res_of rfl rfl rfl, trivial⟩
set_option maxRecDepth 100000 in
set_option maxHeartbeats 4000000 in
theorem a_actdown (p c : Nd) (hp : p.Gd) (hc : c.Gd) (i : Int) : AFn Tryz.prog 43 [p.av, c.av, intA i] (.tup [(lessN p (goesN p i)).av, (takeN c (goesN p i)).av, intA ((goesN p i).length : Nat)]) := by
  have h1 := hp.ms
  have h2 := hp.ps
  have hg := goes_bf hp i
  have hgl := goes_len p i
  have c1 := a_bufpartI p.ms p.ps i hp.bf.srt (by omega) (by omega)
  have hpl := (partI_sub p.ms p.ps i).length_le
  have c2 := a_bufbatch (partI p.ms p.ps i) (by omega)
  rw [show (partI p.ms p.ps i).take (batchN (partI p.ms p.ps i)) = goesN p i from rfl] at c2
  have c3 := a_bufless p.ms (goesN p i) hg.srt (by omega) (by omega)
  have ct1 := fun hl => a_takeleaf c hc hl (goesN p i) hg.ok (by omega)
  have ct2 := fun hl => a_takeinner c hc hl (goesN p i) hg.ok (by omega)
  rw [show lessN p (goesN p i) = ⟨p.leaf, p.es, p.ks, p.ps, bfLess p.ms (goesN p i)⟩ from rfl]
  generalize takeN c (goesN p i) = x at *
  generalize goesN p i = g at *
  generalize partI p.ms p.ps i = y at *
  generalize bfLess p.ms g = z at *
  cases hl : c.leaf with
  | true =>
    have ct := ct1 hl
    have cw := a_wayleaf c hl
    clear ct1 ct2
    refine AFn_intro Tryz.func43 rfl Tryz.ntmps43 rfl (by simp) [_, _, _] rfl fun E hE => ?_; have hnt : (!true) = false := rfl; have hnf : (!false) = true := rfl
    have d1 := acall Tryz.func76 (c1) (by decide +kernel) (by decide +kernel)
    have d2 := acall Tryz.func75 (c2) (by decide +kernel) (by decide +kernel)
    have d3 := acall Tryz.func77 (c3) (by decide +kernel) (by decide +kernel)
    have d4 := acall Tryz.func33 (cw) (by decide +kernel) (by decide +kernel)
    have d5 := acall Tryz.func60 (ct) (by decide +kernel) (by decide +kernel)
    refine wA ?_
    exact fin ⟨res_var rfl rfl rfl rfl, res_var rfl rfl rfl rfl, res_of rfl rfl rfl, trivial⟩
  | false =>
    have ct := ct2 hl
    have cw := a_wayinner c hl
    clear ct1 ct2
    refine AFn_intro Tryz.func43 rfl Tryz.ntmps43 rfl (by simp) [_, _, _] rfl fun E hE => ?_; have hnt : (!true) = false := rfl; have hnf : (!false) = true := rfl
    have d1 := acall Tryz.func76 (c1) (by decide +kernel) (by decide +kernel)
    have d2 := acall Tryz.func75 (c2) (by decide +kernel) (by decide +kernel)
    have d3 := acall Tryz.func77 (c3) (by decide +kernel) (by decide +kernel)
    have d4 := acall Tryz.func33 (cw) (by decide +kernel) (by decide +kernel)
    have d5 := acall Tryz.func59 (ct) (by decide +kernel) (by decide +kernel)
    refine wA ?_
    exact fin ⟨res_var rfl rfl rfl rfl, res_var rfl rfl rfl rfl, res_of rfl rfl rfl, trivial⟩
set_option maxRecDepth 100000 in
set_option maxHeartbeats 4000000 in
theorem a_refdown (p c : Nd) (hp : p.Gd) (hc : c.Gd) (i : Int) : AFn Tryz.prog 44 [p.av, c.av, intA i] (.tup [(lessN p (goesN p i)).av, (takeN c (goesN p i)).av, intA ((goesN p i).length : Nat)]) := by
  have h1 := hp.ms
  have h2 := hp.ps
  have h3 := hc.es
  have h4 := hc.ms
  have hg := goes_bf hp i
  have hgl := goes_len p i
  have c1 := a_ref06partI p.ms p.ps i hp.bf hp.rs (by omega) (by omega)
  have hpl := (partI_sub p.ms p.ps i).length_le
  have c2 := a_ref06batch (partI p.ms p.ps i) (by omega)
  rw [show (partI p.ms p.ps i).take (batchN (partI p.ms p.ps i)) = goesN p i from rfl] at c2
  have c3 := a_ref06less p.ms (goesN p i) hg.srt (by omega) (by omega)
  have ca1 := a_ref07all c.es (goesN p i) hc.lf hg.ok (by omega) (by omega)
  have ca2 := a_ref06all c.ms (goesN p i) hc.bf hg.ok (by omega) (by omega)
  rw [show lessN p (goesN p i) = ⟨p.leaf, p.es, p.ks, p.ps, bfLess p.ms (goesN p i)⟩ from rfl]
  generalize goesN p i = g at *
  generalize partI p.ms p.ps i = y at *
  generalize bfLess p.ms g = z at *
  cases hl : c.leaf with
  | true =>
    have ca := ca1
    clear ca1 ca2
    obtain ⟨lf, es, ks, ps, ms⟩ := c
    dsimp only at hl
    subst hl
    rw [show takeN ⟨true, es, ks, ps, ms⟩ g = ⟨true, lfAll es g, ks, ps, ms⟩ from by unfold takeN; rw [if_pos rfl]]
    dsimp only at ca
    generalize lfAll es g = X at *
    dsimp only [Nd.av]
    refine AFn_intro Tryz.func44 rfl Tryz.ntmps44 rfl (by simp) [_, _, _] rfl fun E hE => ?_; have hnt : (!true) = false := rfl; have hnf : (!false) = true := rfl
    have d1 := acall Tryz.func54 (c1) (by decide +kernel) (by decide +kernel)
    have d2 := acall Tryz.func78 (c2) (by decide +kernel) (by decide +kernel)
    have d3 := acall Tryz.func79 (c3) (by decide +kernel) (by decide +kernel)
    have d4 := acall Tryz.func80 (ca) (by decide +kernel) (by decide +kernel)
    refine wI ?_
    exact fin ⟨res_var rfl rfl rfl rfl, res_var rfl rfl rfl rfl, res_of rfl rfl rfl, trivial⟩
  | false =>
    have ca := ca2
    clear ca1 ca2
    obtain ⟨lf, es, ks, ps, ms⟩ := c
    dsimp only at hl
    subst hl
    rw [show takeN ⟨false, es, ks, ps, ms⟩ g = ⟨false, es, ks, ps, bfAll ms g⟩ from by unfold takeN; rw [if_neg (by simp)]]
    dsimp only at ca
    generalize bfAll ms g = X at *
    dsimp only [Nd.av]
    refine AFn_intro Tryz.func44 rfl Tryz.ntmps44 rfl (by simp) [_, _, _] rfl fun E hE => ?_; have hnt : (!true) = false := rfl; have hnf : (!false) = true := rfl
    have d1 := acall Tryz.func54 (c1) (by decide +kernel) (by decide +kernel)
    have d2 := acall Tryz.func78 (c2) (by decide +kernel) (by decide +kernel)
    have d3 := acall Tryz.func79 (c3) (by decide +kernel) (by decide +kernel)
    have d4 := acall Tryz.func81 (ca) (by decide +kernel) (by decide +kernel)
    refine wI ?_
    exact fin ⟨res_var rfl rfl rfl rfl, res_var rfl rfl rfl rfl, res_of rfl rfl rfl, trivial⟩
set_option maxRecDepth 100000 in
set_option maxHeartbeats 4000000 in
theorem a_actpush (p c : Nd) (hp : p.Gd) (hc : c.Gd) (i : Int) : AFn Tryz.prog 17 [p.av, c.av, intA i] (.tup [(pushN p c i).1.av, (pushN p c i).2.1.av, boolA (pushN p c i).2.2]) := by
  by_cases hok : placeOk p i
  · have hgl := goes_len p i
    have h1 := hp.ms
    have cd := a_actdown p c hp hc i
    have cf := a_nodefits (takeN c (goesN p i)) (take_sm hc _ (by omega))
    have hgp : (goesN p i).length = 0 ∨ ¬ (goesN p i).length = 0 := Classical.em _
    have hpush : pushN p c i = if (goesN p i).length = 0 ∨ nodeFits (takeN c (goesN p i)) = false then (p, c, false) else (lessN p (goesN p i), takeN c (goesN p i), true) := by unfold pushN; rw [if_pos hok]
    obtain ⟨hl, h2, h3⟩ := hok
    rw [hpush]
    generalize takeN c (goesN p i) = x at *
    generalize lessN p (goesN p i) = y at *
    generalize (goesN p i).length = G at *
    by_cases g0 : G = 0
    · rw [if_pos (.inl g0)]
      refine AFn_intro Tryz.func17 rfl Tryz.ntmps17 rfl (by simp) [_, _, _] rfl fun E hE => ?_; have hnt : (!true) = false := rfl; have hnf : (!false) = true := rfl
      have d1 := acall Tryz.func43 (cd) (by decide +kernel) (by decide +kernel)
      refine wI ?_
      exact fin ⟨res_var rfl rfl rfl rfl, res_var rfl rfl rfl rfl, res_of rfl rfl rfl, trivial⟩
    · cases q : nodeFits x with
      | false =>
        rw [q] at cf
        rw [if_pos (.inr rfl)]
        refine AFn_intro Tryz.func17 rfl Tryz.ntmps17 rfl (by simp) [_, _, _] rfl fun E hE => ?_; have hnt : (!true) = false := rfl; have hnf : (!false) = true := rfl
        have d1 := acall Tryz.func43 (cd) (by decide +kernel) (by decide +kernel)
        have d2 := acall Tryz.func34 (cf) (by decide +kernel) (by decide +kernel)
        refine wI ?_
        exact fin ⟨res_var rfl rfl rfl rfl, res_var rfl rfl rfl rfl, res_of rfl rfl rfl, trivial⟩
      | true =>
        rw [q] at cf
        rw [if_neg (by rintro (h | h); exact g0 h; cases h)]
        refine AFn_intro Tryz.func17 rfl Tryz.ntmps17 rfl (by simp) [_, _, _] rfl fun E hE => ?_; have hnt : (!true) = false := rfl; have hnf : (!false) = true := rfl
        have d1 := acall Tryz.func43 (cd) (by decide +kernel) (by decide +kernel)
        have d2 := acall Tryz.func34 (cf) (by decide +kernel) (by decide +kernel)
        refine wI ?_
        exact fin ⟨res_var rfl rfl rfl rfl, res_var rfl rfl rfl rfl, res_of rfl rfl rfl, trivial⟩
  · rw [show pushN p c i = (p, c, false) from by unfold pushN; rw [if_neg hok]]
    cases hl : p.leaf with
    | true =>
      refine AFn_intro Tryz.func17 rfl Tryz.ntmps17 rfl (by simp) [_, _, _] rfl fun E hE => ?_; have hnt : (!true) = false := rfl; have hnf : (!false) = true := rfl
      refine wI ?_
      exact fin ⟨res_var rfl rfl rfl rfl, res_var rfl rfl rfl rfl, res_of rfl rfl rfl, trivial⟩
    | false =>
      by_cases h2 : i < 0
      · refine AFn_intro Tryz.func17 rfl Tryz.ntmps17 rfl (by simp) [_, _, _] rfl fun E hE => ?_; have hnt : (!true) = false := rfl; have hnf : (!false) = true := rfl
        refine wI ?_
        exact fin ⟨res_var rfl rfl rfl rfl, res_var rfl rfl rfl rfl, res_of rfl rfl rfl, trivial⟩
      · have h3 : i ≥ (p.ks.length : Int) := Int.not_lt.1 fun h => hok ⟨hl, by omega, h⟩
        refine AFn_intro Tryz.func17 rfl Tryz.ntmps17 rfl (by simp) [_, _, _] rfl fun E hE => ?_; have hnt : (!true) = false := rfl; have hnf : (!false) = true := rfl
        refine wI ?_
        exact fin ⟨res_var rfl rfl rfl rfl, res_var rfl rfl rfl rfl, res_of rfl rfl rfl, trivial⟩
set_option maxRecDepth 100000 in
set_option maxHeartbeats 4000000 in
theorem a_refpush (p c : Nd) (hp : p.Gd) (hc : c.Gd) (i : Int) : AFn Tryz.prog 18 [p.av, c.av, intA i] (.tup [(pushN p c i).1.av, (pushN p c i).2.1.av, boolA (pushN p c i).2.2]) := by
  by_cases hok : placeOk p i
  · have hgl := goes_len p i
    have h1 := hp.ms
    have cd := a_refdown p c hp hc i
    have cf := a_ref09fits (takeN c (goesN p i)) (take_sm hc _ (by omega))
    have hgp : (goesN p i).length = 0 ∨ ¬ (goesN p i).length = 0 := Classical.em _
    have hpush : pushN p c i = if (goesN p i).length = 0 ∨ nodeFits (takeN c (goesN p i)) = false then (p, c, false) else (lessN p (goesN p i), takeN c (goesN p i), true) := by unfold pushN; rw [if_pos hok]
    obtain ⟨hl, h2, h3⟩ := hok
    rw [hpush]
    generalize takeN c (goesN p i) = x at *
    generalize lessN p (goesN p i) = y at *
    generalize (goesN p i).length = G at *
    by_cases g0 : G = 0
    · rw [if_pos (.inl g0)]
      refine AFn_intro Tryz.func18 rfl Tryz.ntmps18 rfl (by simp) [_, _, _] rfl fun E hE => ?_; have hnt : (!true) = false := rfl; have hnf : (!false) = true := rfl
      have d1 := acall Tryz.func44 (cd) (by decide +kernel) (by decide +kernel)
      refine wI ?_
      exact fin ⟨res_var rfl rfl rfl rfl, res_var rfl rfl rfl rfl, res_of rfl rfl rfl, trivial⟩
    · cases q : nodeFits x with
      | false =>
        rw [q] at cf
        rw [if_pos (.inr rfl)]
        refine AFn_intro Tryz.func18 rfl Tryz.ntmps18 rfl (by simp) [_, _, _] rfl fun E hE => ?_; have hnt : (!true) = false := rfl; have hnf : (!false) = true := rfl
        have d1 := acall Tryz.func44 (cd) (by decide +kernel) (by decide +kernel)
        have d2 := acall Tryz.func15 (cf) (by decide +kernel) (by decide +kernel)
        refine wI ?_
        exact fin ⟨res_var rfl rfl rfl rfl, res_var rfl rfl rfl rfl, res_of rfl rfl rfl, trivial⟩
      | true =>
        rw [q] at cf
        rw [if_neg (by rintro (h | h); exact g0 h; cases h)]
        refine AFn_intro Tryz.func18 rfl Tryz.ntmps18 rfl (by simp) [_, _, _] rfl fun E hE => ?_; have hnt : (!true) = false := rfl; have hnf : (!false) = true := rfl
        have d1 := acall Tryz.func44 (cd) (by decide +kernel) (by decide +kernel)
        have d2 := acall Tryz.func15 (cf) (by decide +kernel) (by decide +kernel)
        refine wI ?_
        exact fin ⟨res_var rfl rfl rfl rfl, res_var rfl rfl rfl rfl, res_of rfl rfl rfl, trivial⟩
  · rw [show pushN p c i = (p, c, false) from by unfold pushN; rw [if_neg hok]]
    cases hl : p.leaf with
    | true =>
      refine AFn_intro Tryz.func18 rfl Tryz.ntmps18 rfl (by simp) [_, _, _] rfl fun E hE => ?_; have hnt : (!true) = false := rfl; have hnf : (!false) = true := rfl
      refine wI ?_
      exact fin ⟨res_var rfl rfl rfl rfl, res_var rfl rfl rfl rfl, res_of rfl rfl rfl, trivial⟩
    | false =>
      by_cases h2 : i < 0
      · refine AFn_intro Tryz.func18 rfl Tryz.ntmps18 rfl (by simp) [_, _, _] rfl fun E hE => ?_; have hnt : (!true) = false := rfl; have hnf : (!false) = true := rfl
        refine wI ?_
        exact fin ⟨res_var rfl rfl rfl rfl, res_var rfl rfl rfl rfl, res_of rfl rfl rfl, trivial⟩
      · have h3 : i ≥ (p.ks.length : Int) := Int.not_lt.1 fun h => hok ⟨hl, by omega, h⟩
        refine AFn_intro Tryz.func18 rfl Tryz.ntmps18 rfl (by simp) [_, _, _] rfl fun E hE => ?_; have hnt : (!true) = false := rfl; have hnf : (!false) = true := rfl
        refine wI ?_
        exact fin ⟨res_var rfl rfl rfl rfl, res_var rfl rfl rfl rfl, res_of rfl rfl rfl, trivial⟩
end Go.Proofs.YtonjbnoeoececaaGreat

namespace Go.Proofs.YtonjbnoeoececaaGreat
open Go Go.RowKit
set_option linter.unusedVariables false
set_option linter.unusedSimpArgs false
set_option maxRecDepth 100000

def vByte (k i : Nat) : BitVec 8 := BitVec.ofInt 8 ((k : Int) / 17 + (i : Int) * ((k : Int) / 4352))
def vText (k : Nat) : List (BitVec 8) := (List.range (k % 17)).map (vByte k)
def lawVl (v : Int) : Vl := mkVl (vText (v % 1099511627776).toNat)
theorem vText_len (k : Nat) : (vText k).length = k % 17 := by simp [vText]
theorem lawVl_ok (v : Int) : (lawVl v).ok = true := mkVl_ok _ (by rw [vText_len]; omega)
/-- the row behind j bytes -/
def vRow (k j : Nat) : List (BitVec 8) := (vText k).take j ++ List.replicate (k % 17 - j) 0#8
theorem vRow_zero (k : Nat) : vRow k 0 = List.replicate (k % 17) 0#8 := by simp [vRow]
theorem vRow_end (k : Nat) : vRow k (k % 17) = vText k := by
  unfold vRow
  rw [List.take_of_length_le (by rw [vText_len]; exact Nat.le_refl _)]
  simp
theorem vRow_len (k j : Nat) (h : j ≤ k % 17) : (vRow k j).length = k % 17 := by
  unfold vRow
  rw [List.length_append, List.length_take, List.length_replicate, vText_len]
  omega
theorem vRow_set (k j : Nat) (h : j < k % 17) : (vRow k j).set j (vByte k j) = vRow k (j + 1) := by
  unfold vRow
  have hl : ((vText k).take j).length = j := by rw [List.length_take, vText_len]; omega
  rw [List.set_append, if_neg (by omega), hl, Nat.sub_self, show k % 17 - j = (k % 17 - (j + 1)) + 1 by omega, List.replicate_succ, List.set_cons_zero]
  rw [← List.take_append_getElem (show j < (vText k).length by rw [vText_len]; exact h)]
  simp [vText]
theorem a_refvlof (xs : List (BitVec 8)) (h : xs.length ≤ 16) : AFn Tryz.prog 58 [.v (.string (bytesOf xs))] (.tup [(mkVl xs).av, intA 0]) := fun U w vs hr => by
  obtain ⟨v1, us, rfl, h1, hr⟩ := rdp_one hr
  obtain rfl := rdp_nil hr
  rw [(Rdv_v.1 h1).2]
  have := refvlof_any xs w
  rw [if_pos h] at this
  exact ofIs this fun w' => by
    rw [Rdv_tup]
    refine ⟨[.agg (mkVl xs).arr, .int .i64 0], rfl, ?_⟩
    simp only [Rdp]
    exact ⟨(mkVl xs).arr.toList, [.int .i64 0], rfl, Vl.rd.2 rfl, [.int .i64 0], [], rfl, (rd_v rfl).2 rfl, rfl⟩
attribute [local irreducible] OpOK AWops AW CondB Go2 AFn thenA inBlockA noGotoA orderOk wantedA
set_option maxRecDepth 100000 in
set_option maxHeartbeats 4000000 in
theorem a_lval (v : Int) (hv : -9223372036854775808 ≤ v ∧ v ≤ 9223372036854775807) : AFn Tryz.prog 30 [intA v] (lawVl v).av := by
  refine AFn_intro Tryz.func30 rfl Tryz.ntmps30 rfl (by simp) [_] rfl fun E hE => ?_
  obtain ⟨k, hk⟩ : ∃ k : Nat, v % 1099511627776 = (k : Int) := ⟨(v % 1099511627776).toNat, by omega⟩
  have hlt : k < 1099511627776 := by omega
  have hlv : lawVl v = mkVl (vText k) := by unfold lawVl; rw [hk]; rfl
  rw [hlv]
  have c1 := a_lplace v 1099511627776 (by omega) (by omega) hv
  rw [hk] at c1
  have c2 := a_refvlof (vText k) (by rw [vText_len]; omega)
  have d1 := acall Tryz.func25 (c1) (by decide +kernel) (by decide +kernel)
  have d2 := acall Tryz.func58 (c2) (by decide +kernel) (by decide +kernel)
  refine wS ?_
  refine Wri 13 ((k % 17 : Nat) : Int) rfl (by omega) ?_
  refine wS ?_
  (apply Wb; (focus (exact o_make (f := byteA) (x0 := 0#8) (n := k % 17) rfl rfl rfl rfl rfl rfl (by omega) (by omega))); (focus (first | exact want_n | exact want_g rfl (by with_reducible rfl))))
  refine wS ?_
  refine AW_loopI (fun j : Nat => ⟨[(2, .ptr 2 0 []), (3, intA k), (4, intA (k % 17 : Nat)), (5, .seg 14 0 1 [] (k % 17) (k % 17)), (6, intA j)], [(2, .var Vl.zero.av), (14, .var (.arr (k % 17 * 1) 1 ((vRow k j).map byteA)))]⟩) (fun j => j ≤ k % 17) (fun j => k % 17 - j) 0 (Nat.zero_le _) (by rw [vRow_zero]; (refine Go2.sub ⟨?_, ?_⟩ <;> repeat' (first | exact True.intro | rfl | apply And.intro))) (fun j hj => ?_)
  by_cases c : j < k % 17
  · have hs := vRow_set k j c
    have hl := vRow_len k j hj
    have hm : (j : Int) * ((k : Int) / 4352) ≤ 17 * 252645136 := by
      have h1 : (j : Int) ≤ 17 := by omega
      have h2 : (k : Int) / 4352 ≤ 252645136 := by omega
      have h3 : 0 ≤ (k : Int) / 4352 := by omega
      exact Int.mul_le_mul h1 h2 h3 (by omega)
    have hm0 : 0 ≤ (j : Int) * ((k : Int) / 4352) := Int.mul_nonneg (by omega) (by omega)
    generalize hmm : (j : Int) * ((k : Int) / 4352) = mm at hm hm0
    refine wS ?_
    (apply Ws; (focus (exact o_stm (f := byteA) (b := vByte k j) rfl (by unfold vByte; rw [hmm]; rfl) rfl (by omega) rfl rfl (fun _ => rfl) rfl rfl)); (focus (first | exact want_n | exact want_g rfl (by with_reducible rfl))))
    refine wS ?_
    refine ⟨j + 1, by omega, by omega, ?_⟩
    (refine Go2.sub ⟨?_, ?_⟩ <;> repeat' (first | exact True.intro | rfl | apply And.intro))
    all_goals (rw [hs]; rfl)
  · obtain rfl : j = k % 17 := by omega
    rw [vRow_end]
    have hl := vText_len k
    refine AW_go (Go2.froz hE 14 rfl) ?_
    refine AW_go (Go2.seg 5 14 rfl rfl rfl rfl (by simp; omega)) ?_
    refine AW_go (Go2.as 5 (.sl none 1 ((vText k).map byteA)) (by rw [← hl, ← List.length_map (f := byteA), List.take_length]; rfl)) ?_
    refine wS ?_
    exact fin ⟨res_var rfl rfl rfl rfl, trivial⟩
/-- the laws' message by a number -/
def lawMsg (v seq : Int) : Msg :=
  let k := v % 1099511627776
  ⟨1 + k % 3, BitVec.ofInt 64 (seq % 1099511627776), lawKey (k / 4), if k % 3 = 0 then lawVl (k / 64) else Vl.zero, if k % 3 = 2 then BitVec.ofInt 64 (k / 1024) * BitVec.ofInt 64 65537 else 0#64⟩
theorem lawMsg_ok (v seq : Int) : (lawMsg v seq).ok = true := by
  have h0 := Int.emod_nonneg (v % 1099511627776) (show (3 : Int) ≠ 0 by omega)
  have h1 := Int.emod_lt_of_pos (v % 1099511627776) (show (0 : Int) < 3 by omega)
  unfold Msg.ok lawMsg
  simp only [lawKey_ok, Bool.and_true, Bool.and_eq_true, Bool.or_eq_true, decide_eq_true_eq]
  refine ⟨⟨⟨by omega, by omega⟩, ?_⟩, ?_⟩
  · by_cases c : v % 1099511627776 % 3 = 0
    · rw [if_pos (by omega), if_pos c]; exact lawVl_ok _
    · rw [if_neg (by omega), decide_eq_true_eq, if_neg c]
  · by_cases c : v % 1099511627776 % 3 = 2
    · exact .inl (by omega)
    · right; rw [if_neg c]
set_option maxRecDepth 100000 in
set_option maxHeartbeats 4000000 in
theorem a_lmsg (v seq : Int) (hv : -9223372036854775808 ≤ v ∧ v ≤ 9223372036854775807) (hq : -9223372036854775808 ≤ seq ∧ seq ≤ 9223372036854775807) : AFn Tryz.prog 9 [intA v, intA seq] (lawMsg v seq).av := by
  refine AFn_intro Tryz.func9 rfl Tryz.ntmps9 rfl (by simp) [_] rfl fun E hE => ?_
  have h0 := Int.emod_nonneg v (show (1099511627776 : Int) ≠ 0 by omega)
  have h1 := Int.emod_lt_of_pos v (show (0 : Int) < 1099511627776 by omega)
  have c1 := a_lplace v 1099511627776 (by omega) (by omega) hv
  have c2 := a_lplace seq 1099511627776 (by omega) (by omega) hq
  unfold lawMsg
  dsimp only
  generalize v % 1099511627776 = k at h0 h1 c1 ⊢
  have d1 := acall Tryz.func25 (c1) (by decide +kernel) (by decide +kernel)
  have d2 := acall Tryz.func25 (c2) (by decide +kernel) (by decide +kernel)
  have d3 := acall Tryz.func27 (a_lkey (k / 4) (by omega)) (by decide +kernel) (by decide +kernel)
  have d4 := acall Tryz.func30 (a_lval (k / 64) (by omega)) (by decide +kernel) (by decide +kernel)
  by_cases q0 : k % 3 = 0
  · have e1 : 1 + k % 3 = 1 := by omega
    rw [if_pos q0, if_neg (by omega)]
    refine wS ?_
    exact fin ⟨res_var rfl rfl rfl rfl, trivial⟩
  · have e1 : ¬ 1 + k % 3 = 1 := by omega
    rw [if_neg q0]
    by_cases q2 : k % 3 = 2
    · rw [if_pos q2]
      have e3 : 1 + k % 3 = 3 := by omega
      refine wS ?_
      exact fin ⟨res_var rfl rfl rfl rfl, trivial⟩
    · rw [if_neg q2]
      have e3 : ¬ 1 + k % 3 = 3 := by omega
      refine wS ?_
      exact fin ⟨res_var rfl rfl rfl rfl, trivial⟩
end Go.Proofs.YtonjbnoeoececaaGreat

namespace Go.Proofs.YtonjbnoeoececaaGreat
open Go Go.RowKit
set_option linter.unusedVariables false
set_option linter.unusedSimpArgs false
set_option maxRecDepth 100000

def msgStep (most : Int) (out : List Msg) (m : Msg) : List Msg := if bSum (bfAdd out m) ≤ most then bfAdd out m else out
def msgsF (l : List Int) (most : Int) : Nat → List Msg
  | 0 => []
  | j + 1 => msgStep most (msgsF l most j) (lawMsg (l.getD j 0) ((j + 1 : Nat) : Int))
def msgList (l : List Int) (most : Int) : List Msg := msgsF l most (min l.length 60)
theorem msgsF_bf (l : List Int) (most : Int) : ∀ j, Bf (msgsF l most j)
  | 0 => bf_nil
  | j + 1 => by
    unfold msgsF msgStep
    split
    · exact bf_add (msgsF_bf l most j) (lawMsg_ok _ _)
    · exact msgsF_bf l most j
theorem msgsF_len (l : List Int) (most : Int) : ∀ j, (msgsF l most j).length ≤ j
  | 0 => Nat.le_refl _
  | j + 1 => by
    have h1 := msgsF_len l most j
    have h2 := add_len (msgsF l most j) (lawMsg (l.getD j 0) ((j + 1 : Nat) : Int))
    unfold msgsF msgStep
    split <;> omega
theorem msgsF_sum (l : List Int) (most : Int) (h0 : 0 ≤ most) : ∀ j, bSum (msgsF l most j) ≤ most
  | 0 => h0
  | j + 1 => by
    unfold msgsF msgStep
    split
    · assumption
    · exact msgsF_sum l most h0 j
theorem msgList_bf (l : List Int) (most : Int) : Bf (msgList l most) := msgsF_bf l most _
theorem msgList_len (l : List Int) (most : Int) : (msgList l most).length ≤ 60 := Nat.le_trans (msgsF_len l most _) (Nat.min_le_right _ _)
theorem msgList_sum (l : List Int) (most : Int) (h0 : 0 ≤ most) : bSum (msgList l most) ≤ most := msgsF_sum l most h0 _
theorem msgList_end (l : List Int) (most : Int) (j : Nat) (h : (j = 60 ∧ j ≤ l.length) ∨ (j = l.length ∧ j ≤ 60)) : msgsF l most j = msgList l most := by
  unfold msgList
  congr 1
  omega
attribute [local irreducible] OpOK AWops AW CondB Go2 AFn thenA inBlockA noGotoA orderOk wantedA
set_option maxRecDepth 100000 in
set_option maxHeartbeats 8000000 in
theorem a_msgs (l : List Int) (most : Int) (hb : ∀ n ∈ l, -9223372036854775808 ≤ n ∧ n ≤ 9223372036854775807) : AFn Tryz.prog 39 [intsA l, intA most] (msgsA (msgList l most)) := by
  refine AFn_intro Tryz.func39 rfl Tryz.ntmps39 rfl (by simp) [_] rfl fun E hE => ?_
  refine wL ?_
  refine AW_go (Go2.nil 5 29 rfl) ?_
  refine AW_loopI (fun j : Nat => ⟨[(0, intsA l), (1, intA most), (5, msgsA (msgsF l most j)), (6, intA j)], []⟩) (fun j => j ≤ l.length ∧ j ≤ 60) (fun j => l.length - j) 0 ⟨Nat.zero_le _, by omega⟩ (by (refine Go2.sub ⟨?_, ?_⟩ <;> repeat' (first | exact True.intro | rfl | apply And.intro))) (fun j hj => ?_)
  obtain ⟨j1, j2⟩ := hj
  by_cases c : j < l.length
  · by_cases q : j < 60
    · have hx := hb l[j] (List.getElem_mem c)
      have hbf := msgsF_bf l most j
      have hlen := msgsF_len l most j
      have hs : msgsF l most (j + 1) = msgStep most (msgsF l most j) (lawMsg l[j] ((j + 1 : Nat) : Int)) := by
        rw [msgsF]
        rw [List.getD_eq_getElem?_getD, List.getElem?_eq_getElem c]
        rfl
      have hmo := lawMsg_ok l[j] ((j + 1 : Nat) : Int)
      have p1 := a_lmsg l[j] ((j + 1 : Nat) : Int) hx (by omega)
      generalize lawMsg l[j] ((j + 1 : Nat) : Int) = M at hs hmo p1
      have hal := add_len (msgsF l most j) M
      have p2 := a_ref06add (msgsF l most j) M hbf (Msg.spec hmo).2.2.1 (by omega)
      have p3 := a_ref06bytes (bfAdd (msgsF l most j) M) (by omega)
      unfold msgStep at hs
      generalize bfAdd (msgsF l most j) M = more at hs hal p2 p3
      have d1 := acall Tryz.func9 (p1) (by decide +kernel) (by decide +kernel)
      have d2 := acall Tryz.func37 (p2) (by decide +kernel) (by decide +kernel)
      have d3 := acall Tryz.func67 (p3) (by decide +kernel) (by decide +kernel)
      by_cases z : bSum more ≤ most
      · rw [if_pos z] at hs
        refine wL ?_
        refine ⟨j + 1, ⟨c, q⟩, by omega, ?_⟩
        rw [hs]
        (refine Go2.sub ⟨?_, ?_⟩ <;> repeat' (first | exact True.intro | rfl | apply And.intro))
      · rw [if_neg z] at hs
        refine wL ?_
        refine ⟨j + 1, ⟨c, q⟩, by omega, ?_⟩
        rw [hs]
        (refine Go2.sub ⟨?_, ?_⟩ <;> repeat' (first | exact True.intro | rfl | apply And.intro))
    · rw [← msgList_end l most j (.inl ⟨by omega, j1⟩)]
      refine wL ?_
      exact fin ⟨res_sl rfl, trivial⟩
  · rw [← msgList_end l most j (.inr ⟨by omega, j2⟩)]
    refine wL ?_
    exact fin ⟨res_sl rfl, trivial⟩
end Go.Proofs.YtonjbnoeoececaaGreat

namespace Go.Proofs.YtonjbnoeoececaaGreat
open Go Go.RowKit
set_option linter.unusedVariables false
set_option linter.unusedSimpArgs false
set_option maxRecDepth 100000

def entMsg (x : Int) : Msg := ⟨1, 0#64, lawKey (x % 1099511627776), lawVl (x % 1099511627776 / 16), 0#64⟩
theorem entMsg_ok (x : Int) : (entMsg x).ok = true := by
  unfold Msg.ok entMsg
  simp [lawKey_ok, lawVl_ok]
def entStep (most : Int) (out : List Ent) (x : Int) : List Ent := if eSum (lfPut out (entMsg x)) ≤ most then lfPut out (entMsg x) else out
def entsF (l : List Int) (most : Int) (j : Nat) : List Ent := (l.take j).foldl (entStep most) []
def entList (l : List Int) (most : Int) : List Ent := entsF l most 80
theorem entsF_snoc (l : List Int) (most : Int) (j : Nat) (h : j < l.length) : entsF l most (j + 1) = entStep most (entsF l most j) l[j] := by
  unfold entsF
  rw [← List.take_append_getElem h, List.foldl_append]
  rfl
theorem entStep_lf {most : Int} {out : List Ent} {x : Int} (h : Lf out) : Lf (entStep most out x) := by
  unfold entStep
  split
  · exact lf_put h (entMsg_ok x)
  · exact h
theorem entsF_lf (l : List Int) (most : Int) : ∀ j, Lf (entsF l most j) := by
  unfold entsF
  intro j
  have : ∀ (xs : List Int) (out : List Ent), Lf out → Lf (xs.foldl (entStep most) out) := by
    intro xs
    induction xs with
    | nil => intro out h; exact h
    | cons x xs ih => intro out h; exact ih _ (entStep_lf h)
  exact this _ _ lf_nil
theorem entsF_len (l : List Int) (most : Int) (j : Nat) : (entsF l most j).length ≤ j := by
  unfold entsF
  have : ∀ (xs : List Int) (out : List Ent), (xs.foldl (entStep most) out).length ≤ out.length + xs.length := by
    intro xs
    induction xs with
    | nil => intro out; simp
    | cons x xs ih =>
      intro out
      have h1 := ih (entStep most out x)
      have h2 : (entStep most out x).length ≤ out.length + 1 := by
        unfold entStep
        split
        · exact put_len _ _
        · omega
      simp only [List.foldl_cons, List.length_cons]
      omega
  have h := this (l.take j) []
  simp only [List.length_nil, List.length_take] at h
  omega
theorem entsF_sum (l : List Int) (most : Int) (h0 : 0 ≤ most) (j : Nat) : eSum (entsF l most j) ≤ most := by
  unfold entsF
  have : ∀ (xs : List Int) (out : List Ent), eSum out ≤ most → eSum (xs.foldl (entStep most) out) ≤ most := by
    intro xs
    induction xs with
    | nil => intro out h; exact h
    | cons x xs ih =>
      intro out h
      refine ih _ ?_
      unfold entStep
      split
      · assumption
      · exact h
  exact this _ _ h0
theorem entList_end (l : List Int) (most : Int) (j : Nat) (h : j = 80 ∨ (j = l.length ∧ j ≤ 80)) : entsF l most j = entList l most := by
  unfold entList entsF
  rcases h with h | ⟨h1, h2⟩
  · rw [h]
  · rw [List.take_of_length_le (by omega), List.take_of_length_le (by omega)]
theorem entList_lf (l : List Int) (most : Int) : Lf (entList l most) := entsF_lf l most 80
theorem entList_len (l : List Int) (most : Int) : (entList l most).length ≤ 80 := entsF_len l most 80
attribute [local irreducible] OpOK AWops AW CondB Go2 AFn thenA inBlockA noGotoA orderOk wantedA
set_option maxRecDepth 100000 in
set_option maxHeartbeats 8000000 in
theorem a_entries (l : List Int) (most : Int) (hb : ∀ n ∈ l, -9223372036854775808 ≤ n ∧ n ≤ 9223372036854775807) : AFn Tryz.prog 35 [intsA l, intA most] (entsA (entList l most)) := by
  refine AFn_intro Tryz.func35 rfl Tryz.ntmps35 rfl (by simp) [_] rfl fun E hE => ?_
  refine wL ?_
  refine AW_go (Go2.nil 5 26 rfl) ?_
  refine AW_loopI (fun j : Nat => ⟨[(0, intsA l), (1, intA most), (5, entsA (entsF l most j)), (6, intA j)], []⟩) (fun j => j ≤ l.length ∧ j ≤ 80) (fun j => l.length - j) 0 ⟨Nat.zero_le _, by omega⟩ (by (refine Go2.sub ⟨?_, ?_⟩ <;> repeat' (first | exact True.intro | rfl | apply And.intro))) (fun j hj => ?_)
  obtain ⟨j1, j2⟩ := hj
  by_cases c : j < l.length
  · by_cases q : j < 80
    · have hx := hb l[j] (List.getElem_mem c)
      have hs := entsF_snoc l most j c
      have hlf := entsF_lf l most j
      have hlen := entsF_len l most j
      have hlf2 := lf_put hlf (entMsg_ok l[j])
      have hlen2 := put_len (entsF l most j) (entMsg l[j])
      have hm := a_ref07put (entsF l most j) (entMsg l[j]) hlf (Msg.spec (entMsg_ok l[j])).2.2.1 (by omega)
      have hy := a_ref07bytes (lfPut (entsF l most j) (entMsg l[j])) hlf2.ok.bd (by omega)
      have k0 := Int.emod_nonneg l[j] (show (1099511627776 : Int) ≠ 0 by omega)
      have k1 := Int.emod_lt_of_pos l[j] (show (0 : Int) < 1099511627776 by omega)
      unfold entStep at hs
      unfold entMsg at hm hy hs
      have p1 := a_lplace l[j] 1099511627776 (by omega) (by omega) hx
      generalize l[j] % 1099511627776 = k at p1 k0 k1 hm hy hs
      have p2 := a_lkey k (by omega)
      have p3 := a_lval (k / 16) (by omega)
      generalize lfPut (entsF l most j) ⟨1, 0#64, lawKey k, lawVl (k / 16), 0#64⟩ = more at hm hy hs
      have d1 := acall Tryz.func25 (p1) (by decide +kernel) (by decide +kernel)
      have d2 := acall Tryz.func27 (p2) (by decide +kernel) (by decide +kernel)
      have d3 := acall Tryz.func30 (p3) (by decide +kernel) (by decide +kernel)
      have d4 := acall Tryz.func36 (hm) (by decide +kernel) (by decide +kernel)
      have d5 := acall Tryz.func64 (hy) (by decide +kernel) (by decide +kernel)
      by_cases z : eSum more ≤ most
      · rw [if_pos z] at hs
        refine wL ?_
        refine ⟨j + 1, ⟨c, q⟩, by omega, ?_⟩
        rw [hs]
        (refine Go2.sub ⟨?_, ?_⟩ <;> repeat' (first | exact True.intro | rfl | apply And.intro))
      · rw [if_neg z] at hs
        refine wL ?_
        refine ⟨j + 1, ⟨c, q⟩, by omega, ?_⟩
        rw [hs]
        (refine Go2.sub ⟨?_, ?_⟩ <;> repeat' (first | exact True.intro | rfl | apply And.intro))
    · rw [← entList_end l most j (.inl (by omega))]
      refine wL ?_
      exact fin ⟨res_sl rfl, trivial⟩
  · rw [← entList_end l most j (.inr ⟨by omega, j2⟩)]
    refine wL ?_
    exact fin ⟨res_sl rfl, trivial⟩
end Go.Proofs.YtonjbnoeoececaaGreat

namespace Go.Proofs.YtonjbnoeoececaaGreat
open Go Go.RowKit
set_option linter.unusedVariables false
set_option linter.unusedSimpArgs false
set_option maxRecDepth 100000

def innerN (p : List Int) (v : Int) (l : List Int) : Nd := ⟨false, [], kidsL v ((pivK (16 :: p) 3).length + 1), pivK (16 :: p) 3, msgList l 205⟩
def leafN (l : List Int) : Nd := ⟨true, entList l 248, [], [], []⟩
theorem res_varl {S : St} {a t g n : Nat} {fs ys : List AV} (ha : S.t a = some (.ptr g 0 [])) (hg : S.h g = some (.var (.agg n fs))) (hs : tabT.sa t = some (true, n)) (hw : ∀ H, WkL H fs ys) : Res1 Tryz.prog S (.cell a t) (.agg n ys) := ⟨g, .agg n fs, ha, hg, tabT.tyOf hs, Wk.agg (hw _)⟩
def innerM (v : Int) (P : List Key) (S : List Msg) : Nat → St
  | 0 => ⟨[(6, .ptr 6 0 []), (7, .ptr 7 0 []), (8, intA (1 + v % 200)), (9, intA ((0 : Nat) : Int))], [(6, .var (nodeA false nilA nilA nilA nilA)), (7, .var (nodeA false nilA nilA (keysA P) (msgsA S)))]⟩
  | j + 1 => ⟨[(6, .ptr 6 0 []), (7, .ptr 7 0 []), (8, intA (1 + v % 200)), (9, intA ((j + 1 : Nat) : Int))], [(6, .var (nodeA false nilA nilA nilA nilA)), (7, .var (nodeA false nilA (.sl (some 34) 1 ((kidsL v (j + 1)).map intA)) (keysA P) (msgsA S))), (34, .tail 3 1 (kidsL v (j + 1)).length)]⟩
attribute [local irreducible] OpOK AWops AW CondB Go2 AFn thenA inBlockA noGotoA orderOk wantedA
set_option maxRecDepth 100000 in
set_option maxHeartbeats 4000000 in
theorem a_inner (p : List Int) (v : Int) (l : List Int) (hl : p.length ≤ 17592186044400) (hb : ∀ n ∈ p, -9223372036854775808 ≤ n ∧ n ≤ 9223372036854775807) (hv : -9223372036854775808 ≤ v ∧ v ≤ 9223372036854775807) (hlb : ∀ n ∈ l, -9223372036854775808 ≤ n ∧ n ≤ 9223372036854775807) :
    AFn Tryz.prog 13 [intsA p, intA v, intsA l] (innerN p v l).av := by
  unfold innerN
  refine AFn_intro Tryz.func13 rfl Tryz.ntmps13 rfl (by simp) [_] rfl fun E hE => ?_
  have hp := a_pivots (16 :: p) 3 (by simp; omega) (fun n hn => by rcases List.mem_cons.1 hn with rfl | hn; omega; exact hb n hn)
  have hle := pivK_le (16 :: p) 3 (by omega)
  generalize pivK (16 :: p) 3 = P at hp hle ⊢
  have cm := a_msgs l 205 hlb
  generalize msgList l 205 = S at cm ⊢
  have c1 := acall Tryz.func38 (hp) (by decide +kernel) (by decide +kernel)
  have c2 := acall Tryz.func39 (cm) (by decide +kernel) (by decide +kernel)
  have c3 := acall Tryz.func25 (a_lplace v 200 (by omega) (by omega) hv) (by decide +kernel) (by decide +kernel)
  refine wL ?_
  refine AW_loopI (innerM v P S) (fun j => j ≤ P.length + 1) (fun j => P.length + 1 - j) 0 (Nat.zero_le _) (by unfold innerM; (refine Go2.sub ⟨?_, ?_⟩ <;> repeat' (first | exact True.intro | rfl | apply And.intro))) (fun j hj => ?_)
  have hs := kidsL_succ v j
  have hkl := kidsL_len v j
  by_cases hlt : j ≤ P.length
  · cases j with
    | zero =>
      unfold innerM
      refine wL ?_
      refine ⟨1, by omega, by omega, ?_⟩
      (refine Go2.sub ⟨?_, ?_⟩ <;> repeat' (first | exact True.intro | rfl | apply And.intro))
    | succ j =>
      unfold innerM
      refine wL ?_
      refine Was 33 (AV.sl (some 33) 1 (List.map intA [1 + v % 200 + 7 * ((j + 1 : Nat) : Int)])) rfl ?_
      refine wL ?_
      refine ⟨j + 2, by omega, by omega, ?_⟩
      (refine Go2.sub ⟨?_, ?_⟩ <;> repeat' (first | exact True.intro | rfl | apply And.intro))
      all_goals (rw [hs]; rfl)
  · have : j = P.length + 1 := by omega
    subst this
    unfold innerM
    refine wL ?_
    exact fin ⟨res_varl rfl rfl rfl (fun _ => .cons (Wk.data rfl) (.cons Wk.nil (.cons Wk.tok (.cons (Wk.data rfl) (.cons (Wk.data rfl) .nil))))), trivial⟩
set_option maxRecDepth 100000 in
set_option maxHeartbeats 4000000 in
theorem a_lleaf (l : List Int) (hlb : ∀ n ∈ l, -9223372036854775808 ≤ n ∧ n ≤ 9223372036854775807) : AFn Tryz.prog 11 [intsA l] (leafN l).av := by
  unfold leafN
  refine AFn_intro Tryz.func11 rfl Tryz.ntmps11 rfl (by simp) [_] rfl fun E hE => ?_
  have ce := a_entries l 248 hlb
  generalize entList l 248 = L at ce ⊢
  have c1 := acall Tryz.func35 (ce) (by decide +kernel) (by decide +kernel)
  refine wL ?_
  exact fin ⟨res_varl rfl rfl rfl (fun _ => .cons (Wk.data rfl) (.cons (Wk.data rfl) (.cons Wk.nil (.cons Wk.nil (.cons Wk.nil .nil))))), trivial⟩
end Go.Proofs.YtonjbnoeoececaaGreat

namespace Go.Proofs.YtonjbnoeoececaaGreat
open Go Go.RowKit
set_option linter.unusedVariables false
set_option linter.unusedSimpArgs false
set_option maxRecDepth 100000

attribute [local irreducible] OpOK AWops AW CondB Go2 AFn thenA inBlockA noGotoA orderOk wantedA
set_option maxRecDepth 100000 in
set_option maxHeartbeats 4000000 in
theorem a_halveleaf (n : Nd) (h : n.Gd) : AFn Tryz.prog 46 [n.av] (tupH (halvL n.es)) := by
  have h1 := h.es
  by_cases c : 2 ≤ n.es.length
  · have c1 := a_leafsplit n.es h.lf.ok.bd c (by omega)
    rw [show halvL n.es = (leafOf (n.es.take (lfCut n.es)), leafOf (n.es.drop (lfCut n.es)), keyAt n.es (lfCut n.es), true) from by unfold halvL; rw [if_pos c]]
    unfold tupH leafOf
    dsimp only [Nd.av]
    generalize n.es.take (lfCut n.es) = A at *
    generalize n.es.drop (lfCut n.es) = B at *
    generalize keyAt n.es (lfCut n.es) = X at *
    refine AFn_intro Tryz.func46 rfl Tryz.ntmps46 rfl (by simp) [_, _, _, _] rfl fun E hE => ?_; have hnt : (!true) = false := rfl; have hnf : (!false) = true := rfl
    have d1 := acall Tryz.func83 (c1) (by decide +kernel) (by decide +kernel)
    refine wI ?_
    exact fin ⟨res_varl rfl rfl rfl (fun _ => by (repeat (first | exact wkl0 | refine wkd rfl ?_ | refine wkt ?_ | refine wkn ?_))), res_varl rfl rfl rfl (fun _ => by (repeat (first | exact wkl0 | refine wkd rfl ?_ | refine wkt ?_ | refine wkn ?_))), res_var rfl rfl rfl rfl, res_of rfl rfl rfl, trivial⟩
  · have c1 := a_leafsplit_no n.es (by omega)
    rw [show halvL n.es = (ndZ, ndZ, Key.zero, false) from by unfold halvL; rw [if_neg c]]
    unfold tupH ndZ
    dsimp only [Nd.av]
    refine AFn_intro Tryz.func46 rfl Tryz.ntmps46 rfl (by simp) [_, _, _, _] rfl fun E hE => ?_; have hnt : (!true) = false := rfl; have hnf : (!false) = true := rfl
    have d1 := acall Tryz.func83 (c1) (by decide +kernel) (by decide +kernel)
    refine wI ?_
    exact fin ⟨res_varl rfl rfl rfl (fun _ => by (repeat (first | exact wkl0 | refine wkd rfl ?_ | refine wkt ?_ | refine wkn ?_))), res_varl rfl rfl rfl (fun _ => by (repeat (first | exact wkl0 | refine wkd rfl ?_ | refine wkt ?_ | refine wkn ?_))), res_var rfl rfl rfl rfl, res_of rfl rfl rfl, trivial⟩
theorem rise_one {k : Key} (h : k.ok = true) : Rise [k] := ⟨fun x hx => by rw [List.mem_singleton.1 hx]; exact h, List.pairwise_singleton _ _⟩
set_option maxRecDepth 100000 in
set_option maxHeartbeats 4000000 in
theorem a_halveinner (n : Nd) (h : n.Gd) : AFn Tryz.prog 51 [n.av] (tupH (halvI n)) := by
  have h1 := h.ms
  have h2 := h.ks
  have h3 := h.ps
  have c1 := a_halves n.ks n.ps (by omega) (by omega)
  have ha : halvI n = if (fanHal n.ks n.ps).2.2.2.2.2 = true then (⟨false, [], (fanHal n.ks n.ps).1, (fanHal n.ks n.ps).2.1, bfPart n.ms [(fanHal n.ks n.ps).2.2.1] 0⟩, ⟨false, [], (fanHal n.ks n.ps).2.2.2.1, (fanHal n.ks n.ps).2.2.2.2.1, bfPart n.ms [(fanHal n.ks n.ps).2.2.1] 1⟩, (fanHal n.ks n.ps).2.2.1, true) else (ndZ, ndZ, Key.zero, false) := rfl
  rw [ha]
  unfold fanHalA at c1
  by_cases c : n.ks.length = 4 ∧ n.ps.length = 3
  · have e : fanHal n.ks n.ps = (n.ks.take 2, n.ps.take 1, n.ps.getD 1 Key.zero, n.ks.drop 2, n.ps.drop 2, true) := by unfold fanHal; rw [if_pos c]
    rw [e] at c1 ⊢
    dsimp only at c1 ⊢
    rw [if_pos rfl]
    have hkr : True := trivial
    have p0 : AFn Tryz.prog 76 [msgsA n.ms, keysA [n.ps.getD 1 Key.zero], intA 0] (msgsA (bfPart n.ms [n.ps.getD 1 Key.zero] 0)) := a_bufpart n.ms [n.ps.getD 1 Key.zero] 0 h.bf.srt (by simp) (by omega) (by simp)
    have p1 : AFn Tryz.prog 76 [msgsA n.ms, keysA [n.ps.getD 1 Key.zero], intA 1] (msgsA (bfPart n.ms [n.ps.getD 1 Key.zero] 1)) := a_bufpart n.ms [n.ps.getD 1 Key.zero] 1 h.bf.srt (by simp) (by omega) (by simp)
    unfold tupH
    dsimp only [Nd.av]
    clear hkr
    generalize n.ps.getD 1 Key.zero = X at *
    generalize bfPart n.ms [X] 0 = P0 at *
    generalize bfPart n.ms [X] 1 = P1 at *
    generalize n.ks.take 2 = K0 at *
    generalize n.ks.drop 2 = K1 at *
    generalize n.ps.take 1 = Q0 at *
    generalize n.ps.drop 2 = Q1 at *
    refine AFn_intro Tryz.func51 rfl Tryz.ntmps51 rfl (by simp) [_, _, _, _] rfl fun E hE => ?_; have hnt : (!true) = false := rfl; have hnf : (!false) = true := rfl
    have d1 := acall Tryz.func87 (c1) (by decide +kernel) (by decide +kernel)
    have d2 := acall Tryz.func76 (p0) (by decide +kernel) (by decide +kernel)
    have d3 := acall Tryz.func76 (p1) (by decide +kernel) (by decide +kernel)
    refine wI ?_
    exact fin ⟨res_varl rfl rfl rfl (fun _ => by (repeat (first | exact wkl0 | refine wkd rfl ?_ | refine wkt ?_ | refine wkn ?_))), res_varl rfl rfl rfl (fun _ => by (repeat (first | exact wkl0 | refine wkd rfl ?_ | refine wkt ?_ | refine wkn ?_))), res_var rfl rfl rfl rfl, res_of rfl rfl rfl, trivial⟩
  · have e : fanHal n.ks n.ps = ([], [], Key.zero, [], [], false) := by unfold fanHal; rw [if_neg c]
    rw [e] at c1 ⊢
    dsimp only at c1 ⊢
    rw [if_neg (by simp)]
    unfold tupH ndZ
    dsimp only [Nd.av]
    refine AFn_intro Tryz.func51 rfl Tryz.ntmps51 rfl (by simp) [_, _, _, _] rfl fun E hE => ?_; have hnt : (!true) = false := rfl; have hnf : (!false) = true := rfl
    have d1 := acall Tryz.func87 (c1) (by decide +kernel) (by decide +kernel)
    refine wI ?_
    exact fin ⟨res_varl rfl rfl rfl (fun _ => by (repeat (first | exact wkl0 | refine wkd rfl ?_ | refine wkt ?_ | refine wkn ?_))), res_varl rfl rfl rfl (fun _ => by (repeat (first | exact wkl0 | refine wkd rfl ?_ | refine wkt ?_ | refine wkn ?_))), res_var rfl rfl rfl rfl, res_of rfl rfl rfl, trivial⟩
set_option maxRecDepth 100000 in
set_option maxHeartbeats 4000000 in
theorem a_halves10 (n : Nd) (h : n.Gd) : AFn Tryz.prog 52 [n.av] (tupH (halvI n)) := by
  have h1 := h.ms
  have h2 := h.ks
  have h3 := h.ps
  have c1 := a_refhalves n.ks n.ps (by omega) (by omega)
  have ha : halvI n = if (fanHal n.ks n.ps).2.2.2.2.2 = true then (⟨false, [], (fanHal n.ks n.ps).1, (fanHal n.ks n.ps).2.1, bfPart n.ms [(fanHal n.ks n.ps).2.2.1] 0⟩, ⟨false, [], (fanHal n.ks n.ps).2.2.2.1, (fanHal n.ks n.ps).2.2.2.2.1, bfPart n.ms [(fanHal n.ks n.ps).2.2.1] 1⟩, (fanHal n.ks n.ps).2.2.1, true) else (ndZ, ndZ, Key.zero, false) := rfl
  rw [ha]
  unfold fanHalA at c1
  by_cases c : n.ks.length = 4 ∧ n.ps.length = 3
  · have e : fanHal n.ks n.ps = (n.ks.take 2, n.ps.take 1, n.ps.getD 1 Key.zero, n.ks.drop 2, n.ps.drop 2, true) := by unfold fanHal; rw [if_pos c]
    rw [e] at c1 ⊢
    dsimp only at c1 ⊢
    rw [if_pos rfl]
    have hkr := rise_one (h.rs.1 (n.ps.getD 1 Key.zero) (by rw [List.getD_eq_getElem?_getD, List.getElem?_eq_getElem (by omega)]; exact List.getElem_mem _))
    have p0 : AFn Tryz.prog 54 [msgsA n.ms, keysA [n.ps.getD 1 Key.zero], intA 0] (msgsA (bfPart n.ms [n.ps.getD 1 Key.zero] 0)) := a_ref06part n.ms [n.ps.getD 1 Key.zero] 0 h.bf hkr (by simp) (by omega) (by simp)
    have p1 : AFn Tryz.prog 54 [msgsA n.ms, keysA [n.ps.getD 1 Key.zero], intA 1] (msgsA (bfPart n.ms [n.ps.getD 1 Key.zero] 1)) := a_ref06part n.ms [n.ps.getD 1 Key.zero] 1 h.bf hkr (by simp) (by omega) (by simp)
    unfold tupH
    dsimp only [Nd.av]
    clear hkr
    generalize n.ps.getD 1 Key.zero = X at *
    generalize bfPart n.ms [X] 0 = P0 at *
    generalize bfPart n.ms [X] 1 = P1 at *
    generalize n.ks.take 2 = K0 at *
    generalize n.ks.drop 2 = K1 at *
    generalize n.ps.take 1 = Q0 at *
    generalize n.ps.drop 2 = Q1 at *
    refine AFn_intro Tryz.func52 rfl Tryz.ntmps52 rfl (by simp) [_, _, _, _] rfl fun E hE => ?_; have hnt : (!true) = false := rfl; have hnf : (!false) = true := rfl
    have d1 := acall Tryz.func88 (c1) (by decide +kernel) (by decide +kernel)
    have d2 := acall Tryz.func54 (p0) (by decide +kernel) (by decide +kernel)
    have d3 := acall Tryz.func54 (p1) (by decide +kernel) (by decide +kernel)
    refine wI ?_
    exact fin ⟨res_varl rfl rfl rfl (fun _ => by (repeat (first | exact wkl0 | refine wkd rfl ?_ | refine wkt ?_ | refine wkn ?_))), res_varl rfl rfl rfl (fun _ => by (repeat (first | exact wkl0 | refine wkd rfl ?_ | refine wkt ?_ | refine wkn ?_))), res_var rfl rfl rfl rfl, res_of rfl rfl rfl, trivial⟩
  · have e : fanHal n.ks n.ps = ([], [], Key.zero, [], [], false) := by unfold fanHal; rw [if_neg c]
    rw [e] at c1 ⊢
    dsimp only at c1 ⊢
    rw [if_neg (by simp)]
    unfold tupH ndZ
    dsimp only [Nd.av]
    refine AFn_intro Tryz.func52 rfl Tryz.ntmps52 rfl (by simp) [_, _, _, _] rfl fun E hE => ?_; have hnt : (!true) = false := rfl; have hnf : (!false) = true := rfl
    have d1 := acall Tryz.func88 (c1) (by decide +kernel) (by decide +kernel)
    refine wI ?_
    exact fin ⟨res_varl rfl rfl rfl (fun _ => by (repeat (first | exact wkl0 | refine wkd rfl ?_ | refine wkt ?_ | refine wkn ?_))), res_varl rfl rfl rfl (fun _ => by (repeat (first | exact wkl0 | refine wkd rfl ?_ | refine wkt ?_ | refine wkn ?_))), res_var rfl rfl rfl rfl, res_of rfl rfl rfl, trivial⟩
set_option maxRecDepth 100000 in
set_option maxHeartbeats 4000000 in
theorem a_id (n : Int) : AFn Tryz.prog 53 [intA n] (boolA (decide (idOk n))) := by
  by_cases c1 : 1 ≤ n
  · by_cases c2 : n < 256
    · rw [decide_eq_true (show idOk n from ⟨c1, c2⟩)]
      refine AFn_intro Tryz.func53 rfl Tryz.ntmps53 rfl (by simp) [_] rfl fun E hE => ?_; have hnt : (!true) = false := rfl; have hnf : (!false) = true := rfl
      refine wI ?_
      exact fin ⟨res_yes rfl c2, trivial⟩
    · rw [decide_eq_false (show ¬ idOk n from fun h => c2 h.2)]
      refine AFn_intro Tryz.func53 rfl Tryz.ntmps53 rfl (by simp) [_] rfl fun E hE => ?_; have hnt : (!true) = false := rfl; have hnf : (!false) = true := rfl
      refine wI ?_
      exact fin ⟨res_no rfl c2, trivial⟩
  · rw [decide_eq_false (show ¬ idOk n from fun h => c1 h.1)]
    refine AFn_intro Tryz.func53 rfl Tryz.ntmps53 rfl (by simp) [_] rfl fun E hE => ?_; have hnt : (!true) = false := rfl; have hnf : (!false) = true := rfl
    refine wI ?_
    exact fin ⟨res_of rfl rfl rfl, trivial⟩
set_option maxRecDepth 100000 in
set_option maxHeartbeats 4000000 in
theorem a_parts (p : Nd) (h : p.Gd) (i id : Int) : AFn Tryz.prog 45 [p.av, intA i, intA id] (boolA (decide (partsOk p i id))) := by
  have hk := h.ks
  have c0 := a_place p.ks id (by omega)
  have ci := a_id id
  cases hl : p.leaf with
  | true =>
    rw [decide_eq_false (show ¬ partsOk p i id from fun h => by have h0 := h.1; rw [hl] at h0; cases h0)]
    have hnl : (!p.leaf) = false := by rw [hl]; rfl
    refine AFn_intro Tryz.func45 rfl Tryz.ntmps45 rfl (by simp) [_] rfl fun E hE => ?_; have hnt : (!true) = false := rfl; have hnf : (!false) = true := rfl
    refine wI ?_
    exact fin ⟨res_of rfl rfl rfl, trivial⟩
  | false =>
    have hnl : (!p.leaf) = true := by rw [hl]; rfl
    by_cases c1 : p.ks.length < 4
    · by_cases c2 : 0 ≤ i
      · by_cases c3 : i < (p.ks.length : Int)
        · by_cases c4 : 1 ≤ id
          · by_cases c5 : id < 256
            · rw [decide_eq_true (show idOk id from ⟨c4, c5⟩)] at ci
              by_cases c6 : idxOf p.ks id < 0
              · rw [decide_eq_true (show partsOk p i id from ⟨hl, c1, c2, c3, ⟨c4, c5⟩, c6⟩)]
                refine AFn_intro Tryz.func45 rfl Tryz.ntmps45 rfl (by simp) [_] rfl fun E hE => ?_; have hnt : (!true) = false := rfl; have hnf : (!false) = true := rfl
                have d1 := acall Tryz.func82 (c0) (by decide +kernel) (by decide +kernel)
                have d2 := acall Tryz.func53 (ci) (by decide +kernel) (by decide +kernel)
                refine wI ?_
                exact fin ⟨res_yes rfl c6, trivial⟩
              · rw [decide_eq_false (show ¬ partsOk p i id from fun h => c6 h.2.2.2.2.2)]
                refine AFn_intro Tryz.func45 rfl Tryz.ntmps45 rfl (by simp) [_] rfl fun E hE => ?_; have hnt : (!true) = false := rfl; have hnf : (!false) = true := rfl
                have d1 := acall Tryz.func82 (c0) (by decide +kernel) (by decide +kernel)
                have d2 := acall Tryz.func53 (ci) (by decide +kernel) (by decide +kernel)
                refine wI ?_
                exact fin ⟨res_no rfl c6, trivial⟩
            · rw [decide_eq_false (show ¬ partsOk p i id from fun h => c5 h.2.2.2.2.1.2)]
              rw [decide_eq_false (show ¬ idOk id from fun h => c5 h.2)] at ci
              refine AFn_intro Tryz.func45 rfl Tryz.ntmps45 rfl (by simp) [_] rfl fun E hE => ?_; have hnt : (!true) = false := rfl; have hnf : (!false) = true := rfl
              have d2 := acall Tryz.func53 (ci) (by decide +kernel) (by decide +kernel)
              refine wI ?_
              exact fin ⟨res_of rfl rfl rfl, trivial⟩
          · rw [decide_eq_false (show ¬ partsOk p i id from fun h => c4 h.2.2.2.2.1.1)]
            rw [decide_eq_false (show ¬ idOk id from fun h => c4 h.1)] at ci
            refine AFn_intro Tryz.func45 rfl Tryz.ntmps45 rfl (by simp) [_] rfl fun E hE => ?_; have hnt : (!true) = false := rfl; have hnf : (!false) = true := rfl
            have d2 := acall Tryz.func53 (ci) (by decide +kernel) (by decide +kernel)
            refine wI ?_
            exact fin ⟨res_of rfl rfl rfl, trivial⟩
        · rw [decide_eq_false (show ¬ partsOk p i id from fun h => c3 h.2.2.2.1)]
          refine AFn_intro Tryz.func45 rfl Tryz.ntmps45 rfl (by simp) [_] rfl fun E hE => ?_; have hnt : (!true) = false := rfl; have hnf : (!false) = true := rfl
          refine wI ?_
          exact fin ⟨res_of rfl rfl rfl, trivial⟩
      · rw [decide_eq_false (show ¬ partsOk p i id from fun h => c2 h.2.2.1)]
        refine AFn_intro Tryz.func45 rfl Tryz.ntmps45 rfl (by simp) [_] rfl fun E hE => ?_; have hnt : (!true) = false := rfl; have hnf : (!false) = true := rfl
        refine wI ?_
        exact fin ⟨res_of rfl rfl rfl, trivial⟩
    · rw [decide_eq_false (show ¬ partsOk p i id from fun h => c1 h.2.1)]
      refine AFn_intro Tryz.func45 rfl Tryz.ntmps45 rfl (by simp) [_] rfl fun E hE => ?_; have hnt : (!true) = false := rfl; have hnf : (!false) = true := rfl
      refine wI ?_
      exact fin ⟨res_of rfl rfl rfl, trivial⟩
set_option maxRecDepth 100000 in
set_option maxHeartbeats 4000000 in
theorem a_may (p : Nd) (h : p.Gd) (i id : Int) : AFn Tryz.prog 48 [p.av, intA i, intA id] (boolA (decide (partsOk p i id))) := by
  have hk := h.ks
  have c0 := a_refplace p.ks id (by omega)
  cases hl : p.leaf with
  | true =>
    rw [decide_eq_false (show ¬ partsOk p i id from fun h => by have h0 := h.1; rw [hl] at h0; cases h0)]
    have hnl : (!p.leaf) = false := by rw [hl]; rfl
    refine AFn_intro Tryz.func48 rfl Tryz.ntmps48 rfl (by simp) [_] rfl fun E hE => ?_; have hnt : (!true) = false := rfl; have hnf : (!false) = true := rfl
    refine wI ?_
    exact fin ⟨res_of rfl rfl rfl, trivial⟩
  | false =>
    have hnl : (!p.leaf) = true := by rw [hl]; rfl
    by_cases c1 : p.ks.length < 4
    · by_cases c2 : 0 ≤ i
      · by_cases c3 : i < (p.ks.length : Int)
        · by_cases c4 : 1 ≤ id
          · by_cases c5 : id < 256
            · by_cases c6 : idxOf p.ks id < 0
              · rw [decide_eq_true (show partsOk p i id from ⟨hl, c1, c2, c3, ⟨c4, c5⟩, c6⟩)]
                refine AFn_intro Tryz.func48 rfl Tryz.ntmps48 rfl (by simp) [_] rfl fun E hE => ?_; have hnt : (!true) = false := rfl; have hnf : (!false) = true := rfl
                have d1 := acall Tryz.func86 (c0) (by decide +kernel) (by decide +kernel)
                refine wI ?_
                exact fin ⟨res_yes rfl c6, trivial⟩
              · rw [decide_eq_false (show ¬ partsOk p i id from fun h => c6 h.2.2.2.2.2)]
                refine AFn_intro Tryz.func48 rfl Tryz.ntmps48 rfl (by simp) [_] rfl fun E hE => ?_; have hnt : (!true) = false := rfl; have hnf : (!false) = true := rfl
                have d1 := acall Tryz.func86 (c0) (by decide +kernel) (by decide +kernel)
                refine wI ?_
                exact fin ⟨res_no rfl c6, trivial⟩
            · rw [decide_eq_false (show ¬ partsOk p i id from fun h => c5 h.2.2.2.2.1.2)]
              refine AFn_intro Tryz.func48 rfl Tryz.ntmps48 rfl (by simp) [_] rfl fun E hE => ?_; have hnt : (!true) = false := rfl; have hnf : (!false) = true := rfl
              refine wI ?_
              exact fin ⟨res_of rfl rfl rfl, trivial⟩
          · rw [decide_eq_false (show ¬ partsOk p i id from fun h => c4 h.2.2.2.2.1.1)]
            refine AFn_intro Tryz.func48 rfl Tryz.ntmps48 rfl (by simp) [_] rfl fun E hE => ?_; have hnt : (!true) = false := rfl; have hnf : (!false) = true := rfl
            refine wI ?_
            exact fin ⟨res_of rfl rfl rfl, trivial⟩
        · rw [decide_eq_false (show ¬ partsOk p i id from fun h => c3 h.2.2.2.1)]
          refine AFn_intro Tryz.func48 rfl Tryz.ntmps48 rfl (by simp) [_] rfl fun E hE => ?_; have hnt : (!true) = false := rfl; have hnf : (!false) = true := rfl
          refine wI ?_
          exact fin ⟨res_of rfl rfl rfl, trivial⟩
      · rw [decide_eq_false (show ¬ partsOk p i id from fun h => c2 h.2.2.1)]
        refine AFn_intro Tryz.func48 rfl Tryz.ntmps48 rfl (by simp) [_] rfl fun E hE => ?_; have hnt : (!true) = false := rfl; have hnf : (!false) = true := rfl
        refine wI ?_
        exact fin ⟨res_of rfl rfl rfl, trivial⟩
    · rw [decide_eq_false (show ¬ partsOk p i id from fun h => c1 h.2.1)]
      refine AFn_intro Tryz.func48 rfl Tryz.ntmps48 rfl (by simp) [_] rfl fun E hE => ?_; have hnt : (!true) = false := rfl; have hnf : (!false) = true := rfl
      refine wI ?_
      exact fin ⟨res_of rfl rfl rfl, trivial⟩
end Go.Proofs.YtonjbnoeoececaaGreat

namespace Go.Proofs.YtonjbnoeoececaaGreat
open Go Go.RowKit
set_option linter.unusedVariables false
set_option linter.unusedSimpArgs false
set_option maxRecDepth 100000

theorem take_gd {n : Nd} (h : n.Gd) {l : List Msg} (hl : ∀ m ∈ l, m.ok = true) (h1 : n.es.length + l.length ≤ 100000) (h2 : n.ms.length + l.length ≤ 100000) : (takeN n l).Gd := by
  have h5 := all_len l n.es
  have h6 := ball_len l n.ms
  unfold takeN
  split
  · exact ⟨lf_all h.lf hl, h.bf, h.rs, by show (lfAll n.es l).length ≤ _; omega, h.ks, h.ps, h.ms⟩
  · exact ⟨h.lf, bf_all h.bf hl, h.rs, h.es, h.ks, h.ps, by show (bfAll n.ms l).length ≤ _; omega⟩
theorem splitL_no {p c : Nd} {i id : Int} (h : ¬ (partsOk p i id ∧ c.leaf = true)) : splitL p c i id = (p, c, ndZ, false) := by unfold splitL; rw [if_neg h]
theorem splitL_yes {p c : Nd} {i id : Int} (h : partsOk p i id ∧ c.leaf = true) : splitL p c i id = if (halvL (takeN c (goesN p i)).es).2.2.2 = true then (withKid (lessN p (goesN p i)) i (halvL (takeN c (goesN p i)).es).2.2.1 id, (halvL (takeN c (goesN p i)).es).1, (halvL (takeN c (goesN p i)).es).2.1, true) else (p, c, ndZ, false) := by unfold splitL; rw [if_pos h]
theorem splitI_no {p c : Nd} {i id : Int} (h : ¬ (partsOk p i id ∧ c.leaf = false)) : splitI p c i id = (p, c, ndZ, false) := by unfold splitI; rw [if_neg h]
theorem splitI_yes {p c : Nd} {i id : Int} (h : partsOk p i id ∧ c.leaf = false) : splitI p c i id = if (halvI c).2.2.2 = true then (withKid p i (halvI c).2.2.1 id, (halvI c).1, (halvI c).2.1, true) else (p, c, ndZ, false) := by unfold splitI; rw [if_pos h]
theorem splitR_no {r : Nd} {a b : Int} (h : ¬ (a ≠ b ∧ idOk a ∧ idOk b)) : splitR r a b = (r, ndZ, ndZ, false) := by unfold splitR; rw [if_neg h]
theorem splitR_yes {r : Nd} {a b : Int} (h : a ≠ b ∧ idOk a ∧ idOk b) : splitR r a b = if (halvN r).2.2.2 = true then (⟨false, [], [a, b], [(halvN r).2.2.1], []⟩, (halvN r).1, (halvN r).2.1, true) else (r, ndZ, ndZ, false) := by unfold splitR; rw [if_pos h]
theorem halvL_no {es : List Ent} (h : (halvL es).2.2.2 = false) : halvL es = (ndZ, ndZ, Key.zero, false) := by
  unfold halvL at h ⊢
  split
  · rename_i c; rw [if_pos c] at h; cases h
  · rfl
theorem halvI_no {n : Nd} (h : (halvI n).2.2.2 = false) : halvI n = (ndZ, ndZ, Key.zero, false) := by
  have ha : halvI n = if (fanHal n.ks n.ps).2.2.2.2.2 = true then (⟨false, [], (fanHal n.ks n.ps).1, (fanHal n.ks n.ps).2.1, bfPart n.ms [(fanHal n.ks n.ps).2.2.1] 0⟩, ⟨false, [], (fanHal n.ks n.ps).2.2.2.1, (fanHal n.ks n.ps).2.2.2.2.1, bfPart n.ms [(fanHal n.ks n.ps).2.2.1] 1⟩, (fanHal n.ks n.ps).2.2.1, true) else (ndZ, ndZ, Key.zero, false) := rfl
  rw [ha] at h ⊢
  split
  · rename_i c; rw [if_pos c] at h; cases h
  · rfl
theorem halvN_no {n : Nd} (h : (halvN n).2.2.2 = false) : halvN n = (ndZ, ndZ, Key.zero, false) := by
  unfold halvN at h ⊢
  split
  · rename_i c; rw [if_pos c] at h; exact halvL_no h
  · rename_i c; rw [if_neg c] at h; exact halvI_no h
theorem tupH_no : tupH (ndZ, ndZ, Key.zero, false) = .tup [ndZ.av, ndZ.av, Key.zero.av, boolA false] := rfl
theorem tupH_yes {h : Nd × Nd × Key × Bool} (q : h.2.2.2 = true) : tupH h = .tup [h.1.av, h.2.1.av, h.2.2.1.av, boolA true] := by unfold tupH; rw [q]
attribute [local irreducible] OpOK AWops AW CondB Go2 AFn thenA inBlockA noGotoA orderOk wantedA
set_option maxRecDepth 100000 in
set_option maxHeartbeats 4000000 in
theorem a_splitleaf (p c : Nd) (hp : p.Gd) (hc : c.Gd) (hk : p.ks.length ≤ p.ps.length + 1) (h1 : c.es.length + p.ms.length ≤ 100000) (h2 : c.ms.length + p.ms.length ≤ 100000) (i id : Int) : AFn Tryz.prog 19 [p.av, c.av, intA i, intA id] (tup4 (splitL p c i id)) := by
  have cp := a_parts p hp i id
  by_cases hok : partsOk p i id
  · rw [decide_eq_true hok] at cp
    cases hl : c.leaf with
    | false =>
      have hnl : (!c.leaf) = true := by rw [hl]; rfl
      rw [splitL_no (fun h => by rw [hl] at h; cases h.2)]
      unfold tup4 ndZ
      dsimp only
      refine AFn_intro Tryz.func19 rfl Tryz.ntmps19 rfl (by simp) [_, _, _, _] rfl fun E hE => ?_; have hnt : (!true) = false := rfl; have hnf : (!false) = true := rfl
      have d1 := acall Tryz.func45 (cp) (by decide +kernel) (by decide +kernel)
      refine wI ?_
      exact fin ⟨res_var rfl rfl rfl rfl, res_var rfl rfl rfl rfl, res_varl rfl rfl rfl (fun _ => by (repeat (first | exact wkl0 | refine wkd rfl ?_ | refine wkt ?_ | refine wkn ?_))), res_of rfl rfl rfl, trivial⟩
    | true =>
      have hnl : (!c.leaf) = false := by rw [hl]; rfl
      have hgl := goes_len p i
      have hx := take_gd hc (goes_bf hp i).ok (by omega) (by omega)
      have cd := a_actdown p c hp hc i
      have hks := hp.ks
      have hps := hp.ps
      rw [splitL_yes ⟨hok, hl⟩]
      have ch := a_halveleaf (takeN c (goesN p i)) hx
      cases q : (halvL (takeN c (goesN p i)).es).2.2.2 with
      | false =>
        rw [halvL_no q, tupH_no] at ch
        rw [if_neg (by simp)]
        generalize takeN c (goesN p i) = x at *
        generalize lessN p (goesN p i) = y at *
        unfold tup4 ndZ
        dsimp only
        refine AFn_intro Tryz.func19 rfl Tryz.ntmps19 rfl (by simp) [_, _, _, _] rfl fun E hE => ?_; have hnt : (!true) = false := rfl; have hnf : (!false) = true := rfl
        have d1 := acall Tryz.func45 (cp) (by decide +kernel) (by decide +kernel)
        have d2 := acall Tryz.func43 (cd) (by decide +kernel) (by decide +kernel)
        have d3 := acall Tryz.func46 (ch) (by decide +kernel) (by decide +kernel)
        refine wI ?_
        exact fin ⟨res_var rfl rfl rfl rfl, res_var rfl rfl rfl rfl, res_varl rfl rfl rfl (fun _ => by (repeat (first | exact wkl0 | refine wkd rfl ?_ | refine wkt ?_ | refine wkn ?_))), res_of rfl rfl rfl, trivial⟩
      | true =>
        rw [tupH_yes q] at ch
        rw [if_pos rfl]
        have ci := a_insert (lessN p (goesN p i)).ks (lessN p (goesN p i)).ps i (halvL (takeN c (goesN p i)).es).2.2.1 id (by show p.ks.length ≤ _; omega) (by show p.ps.length ≤ _; omega)
        unfold tup4 withKid
        dsimp only
        generalize halvL (takeN c (goesN p i)).es = hv at *
        generalize takeN c (goesN p i) = x at *
        generalize lessN p (goesN p i) = y at *
        generalize fanIns y.ks y.ps i hv.2.2.1 id = fi at *
        refine AFn_intro Tryz.func19 rfl Tryz.ntmps19 rfl (by simp) [_, _, _, _] rfl fun E hE => ?_; have hnt : (!true) = false := rfl; have hnf : (!false) = true := rfl
        have d1 := acall Tryz.func45 (cp) (by decide +kernel) (by decide +kernel)
        have d2 := acall Tryz.func43 (cd) (by decide +kernel) (by decide +kernel)
        have d3 := acall Tryz.func46 (ch) (by decide +kernel) (by decide +kernel)
        have d4 := acall Tryz.func47 (ci) (by decide +kernel) (by decide +kernel)
        refine wI ?_
        exact fin ⟨res_var rfl rfl rfl rfl, res_var rfl rfl rfl rfl, res_var rfl rfl rfl rfl, res_of rfl rfl rfl, trivial⟩
  · rw [decide_eq_false hok] at cp
    rw [splitL_no (fun h => hok h.1)]
    unfold tup4 ndZ
    dsimp only
    refine AFn_intro Tryz.func19 rfl Tryz.ntmps19 rfl (by simp) [_, _, _, _] rfl fun E hE => ?_; have hnt : (!true) = false := rfl; have hnf : (!false) = true := rfl
    have d1 := acall Tryz.func45 (cp) (by decide +kernel) (by decide +kernel)
    refine wI ?_
    exact fin ⟨res_var rfl rfl rfl rfl, res_var rfl rfl rfl rfl, res_varl rfl rfl rfl (fun _ => by (repeat (first | exact wkl0 | refine wkd rfl ?_ | refine wkt ?_ | refine wkn ?_))), res_of rfl rfl rfl, trivial⟩
set_option maxRecDepth 100000 in
set_option maxHeartbeats 4000000 in
theorem a_refsplitleaf (p c : Nd) (hp : p.Gd) (hc : c.Gd) (hk : p.ks.length ≤ p.ps.length + 1) (h1 : c.es.length + p.ms.length ≤ 100000) (h2 : c.ms.length + p.ms.length ≤ 100000) (i id : Int) : AFn Tryz.prog 20 [p.av, c.av, intA i, intA id] (tup4 (splitL p c i id)) := by
  have cp := a_may p hp i id
  by_cases hok : partsOk p i id
  · rw [decide_eq_true hok] at cp
    cases hl : c.leaf with
    | false =>
      have hnl : (!c.leaf) = true := by rw [hl]; rfl
      rw [splitL_no (fun h => by rw [hl] at h; cases h.2)]
      unfold tup4 ndZ
      dsimp only
      refine AFn_intro Tryz.func20 rfl Tryz.ntmps20 rfl (by simp) [_, _, _, _] rfl fun E hE => ?_; have hnt : (!true) = false := rfl; have hnf : (!false) = true := rfl
      have d1 := acall Tryz.func48 (cp) (by decide +kernel) (by decide +kernel)
      refine wI ?_
      exact fin ⟨res_var rfl rfl rfl rfl, res_var rfl rfl rfl rfl, res_varl rfl rfl rfl (fun _ => by (repeat (first | exact wkl0 | refine wkd rfl ?_ | refine wkt ?_ | refine wkn ?_))), res_of rfl rfl rfl, trivial⟩
    | true =>
      have hnl : (!c.leaf) = false := by rw [hl]; rfl
      have hgl := goes_len p i
      have hx := take_gd hc (goes_bf hp i).ok (by omega) (by omega)
      have cd := a_refdown p c hp hc i
      have hks := hp.ks
      have hps := hp.ps
      rw [splitL_yes ⟨hok, hl⟩]
      have hxl := hx.es
      by_cases c2 : 2 ≤ (takeN c (goesN p i)).es.length
      · have ch := a_ref07split (takeN c (goesN p i)).es hx.lf.ok.bd c2 (by omega)
        have e : halvL (takeN c (goesN p i)).es = (leafOf ((takeN c (goesN p i)).es.take (lfCut (takeN c (goesN p i)).es)), leafOf ((takeN c (goesN p i)).es.drop (lfCut (takeN c (goesN p i)).es)), keyAt (takeN c (goesN p i)).es (lfCut (takeN c (goesN p i)).es), true) := by unfold halvL; rw [if_pos c2]
        rw [e]
        have ci := a_refinsert (lessN p (goesN p i)).ks (lessN p (goesN p i)).ps i (keyAt (takeN c (goesN p i)).es (lfCut (takeN c (goesN p i)).es)) id (by show p.ks.length ≤ _; omega) (by show p.ps.length ≤ _; omega) (by show p.ks.length ≤ p.ps.length + 1; omega)
        dsimp only
        rw [if_pos rfl]
        unfold tup4 withKid leafOf
        dsimp only
        generalize (takeN c (goesN p i)).es.take (lfCut (takeN c (goesN p i)).es) = A at *
        generalize (takeN c (goesN p i)).es.drop (lfCut (takeN c (goesN p i)).es) = B at *
        generalize keyAt (takeN c (goesN p i)).es (lfCut (takeN c (goesN p i)).es) = X at *
        generalize takeN c (goesN p i) = x at *
        generalize lessN p (goesN p i) = y at *
        generalize fanIns y.ks y.ps i X id = fi at *
        refine AFn_intro Tryz.func20 rfl Tryz.ntmps20 rfl (by simp) [_, _, _, _] rfl fun E hE => ?_; have hnt : (!true) = false := rfl; have hnf : (!false) = true := rfl
        have d1 := acall Tryz.func48 (cp) (by decide +kernel) (by decide +kernel)
        have d2 := acall Tryz.func44 (cd) (by decide +kernel) (by decide +kernel)
        have d3 := acall Tryz.func49 (ch) (by decide +kernel) (by decide +kernel)
        have d4 := acall Tryz.func50 (ci) (by decide +kernel) (by decide +kernel)
        refine wI ?_
        exact fin ⟨res_var rfl rfl rfl rfl, res_varl rfl rfl rfl (fun _ => by (repeat (first | exact wkl0 | refine wkd rfl ?_ | refine wkt ?_ | refine wkn ?_))), res_varl rfl rfl rfl (fun _ => by (repeat (first | exact wkl0 | refine wkd rfl ?_ | refine wkt ?_ | refine wkn ?_))), res_of rfl rfl rfl, trivial⟩
      · have ch := a_ref07split_no (takeN c (goesN p i)).es (by omega)
        have e : halvL (takeN c (goesN p i)).es = (ndZ, ndZ, Key.zero, false) := by unfold halvL; rw [if_neg c2]
        rw [e]
        dsimp only
        rw [if_neg (by simp)]
        generalize takeN c (goesN p i) = x at *
        generalize lessN p (goesN p i) = y at *
        unfold tup4 ndZ
        dsimp only
        refine AFn_intro Tryz.func20 rfl Tryz.ntmps20 rfl (by simp) [_, _, _, _] rfl fun E hE => ?_; have hnt : (!true) = false := rfl; have hnf : (!false) = true := rfl
        have d1 := acall Tryz.func48 (cp) (by decide +kernel) (by decide +kernel)
        have d2 := acall Tryz.func44 (cd) (by decide +kernel) (by decide +kernel)
        have d3 := acall Tryz.func49 (ch) (by decide +kernel) (by decide +kernel)
        refine wI ?_
        exact fin ⟨res_var rfl rfl rfl rfl, res_var rfl rfl rfl rfl, res_varl rfl rfl rfl (fun _ => by (repeat (first | exact wkl0 | refine wkd rfl ?_ | refine wkt ?_ | refine wkn ?_))), res_of rfl rfl rfl, trivial⟩
  · rw [decide_eq_false hok] at cp
    rw [splitL_no (fun h => hok h.1)]
    unfold tup4 ndZ
    dsimp only
    refine AFn_intro Tryz.func20 rfl Tryz.ntmps20 rfl (by simp) [_, _, _, _] rfl fun E hE => ?_; have hnt : (!true) = false := rfl; have hnf : (!false) = true := rfl
    have d1 := acall Tryz.func48 (cp) (by decide +kernel) (by decide +kernel)
    refine wI ?_
    exact fin ⟨res_var rfl rfl rfl rfl, res_var rfl rfl rfl rfl, res_varl rfl rfl rfl (fun _ => by (repeat (first | exact wkl0 | refine wkd rfl ?_ | refine wkt ?_ | refine wkn ?_))), res_of rfl rfl rfl, trivial⟩
set_option maxRecDepth 100000 in
set_option maxHeartbeats 4000000 in
theorem a_splitinner (p c : Nd) (hp : p.Gd) (hc : c.Gd) (hk : p.ks.length ≤ p.ps.length + 1) (i id : Int) : AFn Tryz.prog 21 [p.av, c.av, intA i, intA id] (tup4 (splitI p c i id)) := by
  have cp := a_parts p hp i id
  by_cases hok : partsOk p i id
  · rw [decide_eq_true hok] at cp
    cases hl : c.leaf with
    | true =>
      rw [splitI_no (fun h => by rw [hl] at h; cases h.2)]
      unfold tup4 ndZ
      dsimp only
      refine AFn_intro Tryz.func21 rfl Tryz.ntmps21 rfl (by simp) [_, _, _, _] rfl fun E hE => ?_; have hnt : (!true) = false := rfl; have hnf : (!false) = true := rfl
      have d1 := acall Tryz.func45 (cp) (by decide +kernel) (by decide +kernel)
      refine wI ?_
      exact fin ⟨res_var rfl rfl rfl rfl, res_var rfl rfl rfl rfl, res_varl rfl rfl rfl (fun _ => by (repeat (first | exact wkl0 | refine wkd rfl ?_ | refine wkt ?_ | refine wkn ?_))), res_of rfl rfl rfl, trivial⟩
    | false =>
      have hks := hp.ks
      have hps := hp.ps
      have ch := a_halveinner c hc
      rw [splitI_yes ⟨hok, hl⟩]
      cases q : (halvI c).2.2.2 with
      | false =>
        rw [halvI_no q, tupH_no] at ch
        rw [if_neg (by simp)]
        unfold tup4 ndZ
        dsimp only
        refine AFn_intro Tryz.func21 rfl Tryz.ntmps21 rfl (by simp) [_, _, _, _] rfl fun E hE => ?_; have hnt : (!true) = false := rfl; have hnf : (!false) = true := rfl
        have d1 := acall Tryz.func45 (cp) (by decide +kernel) (by decide +kernel)
        have d3 := acall Tryz.func51 (ch) (by decide +kernel) (by decide +kernel)
        refine wI ?_
        exact fin ⟨res_var rfl rfl rfl rfl, res_var rfl rfl rfl rfl, res_varl rfl rfl rfl (fun _ => by (repeat (first | exact wkl0 | refine wkd rfl ?_ | refine wkt ?_ | refine wkn ?_))), res_of rfl rfl rfl, trivial⟩
      | true =>
        rw [tupH_yes q] at ch
        rw [if_pos rfl]
        have ci := a_insert p.ks p.ps i (halvI c).2.2.1 id (by omega) (by omega)
        unfold tup4 withKid
        dsimp only
        generalize halvI c = hv at *
        generalize fanIns p.ks p.ps i hv.2.2.1 id = fi at *
        refine AFn_intro Tryz.func21 rfl Tryz.ntmps21 rfl (by simp) [_, _, _, _] rfl fun E hE => ?_; have hnt : (!true) = false := rfl; have hnf : (!false) = true := rfl
        have d1 := acall Tryz.func45 (cp) (by decide +kernel) (by decide +kernel)
        have d3 := acall Tryz.func51 (ch) (by decide +kernel) (by decide +kernel)
        have d4 := acall Tryz.func47 (ci) (by decide +kernel) (by decide +kernel)
        refine wI ?_
        exact fin ⟨res_var rfl rfl rfl rfl, res_var rfl rfl rfl rfl, res_var rfl rfl rfl rfl, res_of rfl rfl rfl, trivial⟩
  · rw [decide_eq_false hok] at cp
    rw [splitI_no (fun h => hok h.1)]
    unfold tup4 ndZ
    dsimp only
    refine AFn_intro Tryz.func21 rfl Tryz.ntmps21 rfl (by simp) [_, _, _, _] rfl fun E hE => ?_; have hnt : (!true) = false := rfl; have hnf : (!false) = true := rfl
    have d1 := acall Tryz.func45 (cp) (by decide +kernel) (by decide +kernel)
    refine wI ?_
    exact fin ⟨res_var rfl rfl rfl rfl, res_var rfl rfl rfl rfl, res_varl rfl rfl rfl (fun _ => by (repeat (first | exact wkl0 | refine wkd rfl ?_ | refine wkt ?_ | refine wkn ?_))), res_of rfl rfl rfl, trivial⟩
set_option maxRecDepth 100000 in
set_option maxHeartbeats 4000000 in
theorem a_refsplitinner (p c : Nd) (hp : p.Gd) (hc : c.Gd) (hk : p.ks.length ≤ p.ps.length + 1) (i id : Int) : AFn Tryz.prog 22 [p.av, c.av, intA i, intA id] (tup4 (splitI p c i id)) := by
  have cp := a_may p hp i id
  by_cases hok : partsOk p i id
  · rw [decide_eq_true hok] at cp
    cases hl : c.leaf with
    | true =>
      rw [splitI_no (fun h => by rw [hl] at h; cases h.2)]
      unfold tup4 ndZ
      dsimp only
      refine AFn_intro Tryz.func22 rfl Tryz.ntmps22 rfl (by simp) [_, _, _, _] rfl fun E hE => ?_; have hnt : (!true) = false := rfl; have hnf : (!false) = true := rfl
      have d1 := acall Tryz.func48 (cp) (by decide +kernel) (by decide +kernel)
      refine wI ?_
      exact fin ⟨res_var rfl rfl rfl rfl, res_var rfl rfl rfl rfl, res_varl rfl rfl rfl (fun _ => by (repeat (first | exact wkl0 | refine wkd rfl ?_ | refine wkt ?_ | refine wkn ?_))), res_of rfl rfl rfl, trivial⟩
    | false =>
      have hks := hp.ks
      have hps := hp.ps
      have ch := a_halves10 c hc
      rw [splitI_yes ⟨hok, hl⟩]
      cases q : (halvI c).2.2.2 with
      | false =>
        rw [halvI_no q, tupH_no] at ch
        rw [if_neg (by simp)]
        unfold tup4 ndZ
        dsimp only
        refine AFn_intro Tryz.func22 rfl Tryz.ntmps22 rfl (by simp) [_, _, _, _] rfl fun E hE => ?_; have hnt : (!true) = false := rfl; have hnf : (!false) = true := rfl
        have d1 := acall Tryz.func48 (cp) (by decide +kernel) (by decide +kernel)
        have d3 := acall Tryz.func52 (ch) (by decide +kernel) (by decide +kernel)
        refine wI ?_
        exact fin ⟨res_var rfl rfl rfl rfl, res_var rfl rfl rfl rfl, res_varl rfl rfl rfl (fun _ => by (repeat (first | exact wkl0 | refine wkd rfl ?_ | refine wkt ?_ | refine wkn ?_))), res_of rfl rfl rfl, trivial⟩
      | true =>
        rw [tupH_yes q] at ch
        rw [if_pos rfl]
        have ci := a_refinsert p.ks p.ps i (halvI c).2.2.1 id (by omega) (by omega) (by omega)
        unfold tup4 withKid
        dsimp only
        generalize halvI c = hv at *
        generalize fanIns p.ks p.ps i hv.2.2.1 id = fi at *
        refine AFn_intro Tryz.func22 rfl Tryz.ntmps22 rfl (by simp) [_, _, _, _] rfl fun E hE => ?_; have hnt : (!true) = false := rfl; have hnf : (!false) = true := rfl
        have d1 := acall Tryz.func48 (cp) (by decide +kernel) (by decide +kernel)
        have d3 := acall Tryz.func52 (ch) (by decide +kernel) (by decide +kernel)
        have d4 := acall Tryz.func50 (ci) (by decide +kernel) (by decide +kernel)
        refine wI ?_
        exact fin ⟨res_var rfl rfl rfl rfl, res_var rfl rfl rfl rfl, res_var rfl rfl rfl rfl, res_of rfl rfl rfl, trivial⟩
  · rw [decide_eq_false hok] at cp
    rw [splitI_no (fun h => hok h.1)]
    unfold tup4 ndZ
    dsimp only
    refine AFn_intro Tryz.func22 rfl Tryz.ntmps22 rfl (by simp) [_, _, _, _] rfl fun E hE => ?_; have hnt : (!true) = false := rfl; have hnf : (!false) = true := rfl
    have d1 := acall Tryz.func48 (cp) (by decide +kernel) (by decide +kernel)
    refine wI ?_
    exact fin ⟨res_var rfl rfl rfl rfl, res_var rfl rfl rfl rfl, res_varl rfl rfl rfl (fun _ => by (repeat (first | exact wkl0 | refine wkd rfl ?_ | refine wkt ?_ | refine wkn ?_))), res_of rfl rfl rfl, trivial⟩
set_option maxRecDepth 100000 in
set_option maxHeartbeats 4000000 in
theorem a_splitroot (r : Nd) (hr : r.Gd) (a b : Int) : AFn Tryz.prog 23 [r.av, intA a, intA b] (tup4 (splitR r a b)) := by
  have ca := a_id a
  have cb := a_id b
  by_cases h0 : a = b
  · rw [splitR_no (fun h => h.1 h0)]
    unfold tup4 ndZ
    dsimp only
    refine AFn_intro Tryz.func23 rfl Tryz.ntmps23 rfl (by simp) [_, _, _, _] rfl fun E hE => ?_; have hnt : (!true) = false := rfl; have hnf : (!false) = true := rfl
    refine wA ?_
    exact fin ⟨res_var rfl rfl rfl rfl, res_varl rfl rfl rfl (fun _ => by (repeat (first | exact wkl0 | refine wkd rfl ?_ | refine wkt ?_ | refine wkn ?_))), res_varl rfl rfl rfl (fun _ => by (repeat (first | exact wkl0 | refine wkd rfl ?_ | refine wkt ?_ | refine wkn ?_))), res_of rfl rfl rfl, trivial⟩
  · by_cases h1 : idOk a
    · rw [decide_eq_true h1] at ca
      by_cases h2 : idOk b
      · rw [decide_eq_true h2] at cb
        rw [splitR_yes ⟨h0, h1, h2⟩]
        cases hl : r.leaf with
        | true =>
          have cw := a_wayleaf r hl
          have ch := a_halveleaf r hr
          rw [show halvL r.es = halvN r from by unfold halvN; rw [if_pos hl]] at ch
          cases q : (halvN r).2.2.2 with
          | false =>
            rw [halvN_no q, tupH_no] at ch
            rw [if_neg (by simp)]
            unfold tup4 ndZ
            dsimp only
            refine AFn_intro Tryz.func23 rfl Tryz.ntmps23 rfl (by simp) [_, _, _, _] rfl fun E hE => ?_; have hnt : (!true) = false := rfl; have hnf : (!false) = true := rfl
            have d1 := acall Tryz.func53 (ca) (by decide +kernel) (by decide +kernel)
            have d2 := acall Tryz.func53 (cb) (by decide +kernel) (by decide +kernel)
            have d3 := acall Tryz.func33 (cw) (by decide +kernel) (by decide +kernel)
            have d4 := acall Tryz.func46 (ch) (by decide +kernel) (by decide +kernel)
            refine wA ?_
            exact fin ⟨res_var rfl rfl rfl rfl, res_varl rfl rfl rfl (fun _ => by (repeat (first | exact wkl0 | refine wkd rfl ?_ | refine wkt ?_ | refine wkn ?_))), res_varl rfl rfl rfl (fun _ => by (repeat (first | exact wkl0 | refine wkd rfl ?_ | refine wkt ?_ | refine wkn ?_))), res_of rfl rfl rfl, trivial⟩
          | true =>
            rw [tupH_yes q] at ch
            rw [if_pos rfl]
            generalize halvN r = hv at *
            unfold tup4
            dsimp only
            refine AFn_intro Tryz.func23 rfl Tryz.ntmps23 rfl (by simp) [_, _, _, _] rfl fun E hE => ?_; have hnt : (!true) = false := rfl; have hnf : (!false) = true := rfl
            have d1 := acall Tryz.func53 (ca) (by decide +kernel) (by decide +kernel)
            have d2 := acall Tryz.func53 (cb) (by decide +kernel) (by decide +kernel)
            have d3 := acall Tryz.func33 (cw) (by decide +kernel) (by decide +kernel)
            have d4 := acall Tryz.func46 (ch) (by decide +kernel) (by decide +kernel)
            refine wA ?_
            exact fin ⟨res_varl rfl rfl rfl (fun _ => by (repeat (first | exact wkl0 | refine wkd rfl ?_ | refine wkt ?_ | refine wkn ?_))), res_var rfl rfl rfl rfl, res_var rfl rfl rfl rfl, res_of rfl rfl rfl, trivial⟩
        | false =>
          have cw := a_wayinner r hl
          have ch := a_halveinner r hr
          rw [show halvI r = halvN r from by unfold halvN; rw [if_neg (by rw [hl]; simp)]] at ch
          cases q : (halvN r).2.2.2 with
          | false =>
            rw [halvN_no q, tupH_no] at ch
            rw [if_neg (by simp)]
            unfold tup4 ndZ
            dsimp only
            refine AFn_intro Tryz.func23 rfl Tryz.ntmps23 rfl (by simp) [_, _, _, _] rfl fun E hE => ?_; have hnt : (!true) = false := rfl; have hnf : (!false) = true := rfl
            have d1 := acall Tryz.func53 (ca) (by decide +kernel) (by decide +kernel)
            have d2 := acall Tryz.func53 (cb) (by decide +kernel) (by decide +kernel)
            have d3 := acall Tryz.func33 (cw) (by decide +kernel) (by decide +kernel)
            have d4 := acall Tryz.func51 (ch) (by decide +kernel) (by decide +kernel)
            refine wA ?_
            exact fin ⟨res_var rfl rfl rfl rfl, res_varl rfl rfl rfl (fun _ => by (repeat (first | exact wkl0 | refine wkd rfl ?_ | refine wkt ?_ | refine wkn ?_))), res_varl rfl rfl rfl (fun _ => by (repeat (first | exact wkl0 | refine wkd rfl ?_ | refine wkt ?_ | refine wkn ?_))), res_of rfl rfl rfl, trivial⟩
          | true =>
            rw [tupH_yes q] at ch
            rw [if_pos rfl]
            generalize halvN r = hv at *
            unfold tup4
            dsimp only
            refine AFn_intro Tryz.func23 rfl Tryz.ntmps23 rfl (by simp) [_, _, _, _] rfl fun E hE => ?_; have hnt : (!true) = false := rfl; have hnf : (!false) = true := rfl
            have d1 := acall Tryz.func53 (ca) (by decide +kernel) (by decide +kernel)
            have d2 := acall Tryz.func53 (cb) (by decide +kernel) (by decide +kernel)
            have d3 := acall Tryz.func33 (cw) (by decide +kernel) (by decide +kernel)
            have d4 := acall Tryz.func51 (ch) (by decide +kernel) (by decide +kernel)
            refine wA ?_
            exact fin ⟨res_varl rfl rfl rfl (fun _ => by (repeat (first | exact wkl0 | refine wkd rfl ?_ | refine wkt ?_ | refine wkn ?_))), res_var rfl rfl rfl rfl, res_var rfl rfl rfl rfl, res_of rfl rfl rfl, trivial⟩
      · rw [decide_eq_false h2] at cb
        rw [splitR_no (fun h => h2 h.2.2)]
        unfold tup4 ndZ
        dsimp only
        refine AFn_intro Tryz.func23 rfl Tryz.ntmps23 rfl (by simp) [_, _, _, _] rfl fun E hE => ?_; have hnt : (!true) = false := rfl; have hnf : (!false) = true := rfl
        have d1 := acall Tryz.func53 (ca) (by decide +kernel) (by decide +kernel)
        have d2 := acall Tryz.func53 (cb) (by decide +kernel) (by decide +kernel)
        refine wA ?_
        exact fin ⟨res_var rfl rfl rfl rfl, res_varl rfl rfl rfl (fun _ => by (repeat (first | exact wkl0 | refine wkd rfl ?_ | refine wkt ?_ | refine wkn ?_))), res_varl rfl rfl rfl (fun _ => by (repeat (first | exact wkl0 | refine wkd rfl ?_ | refine wkt ?_ | refine wkn ?_))), res_of rfl rfl rfl, trivial⟩
    · rw [decide_eq_false h1] at ca
      rw [splitR_no (fun h => h1 h.2.1)]
      unfold tup4 ndZ
      dsimp only
      refine AFn_intro Tryz.func23 rfl Tryz.ntmps23 rfl (by simp) [_, _, _, _] rfl fun E hE => ?_; have hnt : (!true) = false := rfl; have hnf : (!false) = true := rfl
      have d1 := acall Tryz.func53 (ca) (by decide +kernel) (by decide +kernel)
      refine wA ?_
      exact fin ⟨res_var rfl rfl rfl rfl, res_varl rfl rfl rfl (fun _ => by (repeat (first | exact wkl0 | refine wkd rfl ?_ | refine wkt ?_ | refine wkn ?_))), res_varl rfl rfl rfl (fun _ => by (repeat (first | exact wkl0 | refine wkd rfl ?_ | refine wkt ?_ | refine wkn ?_))), res_of rfl rfl rfl, trivial⟩
set_option maxRecDepth 100000 in
set_option maxHeartbeats 4000000 in
theorem a_refsplitroot (r : Nd) (hr : r.Gd) (a b : Int) : AFn Tryz.prog 24 [r.av, intA a, intA b] (tup4 (splitR r a b)) := by
  have he := hr.es
  by_cases hok : a ≠ b ∧ idOk a ∧ idOk b
  · rw [splitR_yes hok]
    obtain ⟨h0, ⟨h1, h2⟩, h3, h4⟩ := hok
    cases hl : r.leaf with
    | false =>
      have hnl : (!r.leaf) = true := by rw [hl]; rfl
      have ch := a_halves10 r hr
      rw [show halvI r = halvN r from by unfold halvN; rw [if_neg (by rw [hl]; simp)]] at ch
      cases q : (halvN r).2.2.2 with
      | false =>
        rw [halvN_no q, tupH_no] at ch
        rw [if_neg (by simp)]
        unfold tup4
        dsimp only
        refine AFn_intro Tryz.func24 rfl Tryz.ntmps24 rfl (by simp) [_, _, _, _] rfl fun E hE => ?_; have hnt : (!true) = false := rfl; have hnf : (!false) = true := rfl
        have d1 := acall Tryz.func52 (ch) (by decide +kernel) (by decide +kernel)
        refine wI ?_
        exact fin ⟨res_var rfl rfl rfl rfl, res_var rfl rfl rfl rfl, res_var rfl rfl rfl rfl, res_of rfl rfl rfl, trivial⟩
      | true =>
        rw [tupH_yes q] at ch
        rw [if_pos rfl]
        generalize halvN r = hv at *
        unfold tup4
        dsimp only
        refine AFn_intro Tryz.func24 rfl Tryz.ntmps24 rfl (by simp) [_, _, _, _] rfl fun E hE => ?_; have hnt : (!true) = false := rfl; have hnf : (!false) = true := rfl
        have d1 := acall Tryz.func52 (ch) (by decide +kernel) (by decide +kernel)
        refine wI ?_
        exact fin ⟨res_varl rfl rfl rfl (fun _ => by (repeat (first | exact wkl0 | refine wkd rfl ?_ | refine wkt ?_ | refine wkn ?_))), res_var rfl rfl rfl rfl, res_var rfl rfl rfl rfl, res_of rfl rfl rfl, trivial⟩
    | true =>
      have hnl : (!r.leaf) = false := by rw [hl]; rfl
      have e0 : halvN r = halvL r.es := by unfold halvN; rw [if_pos hl]
      by_cases c2 : 2 ≤ r.es.length
      · have ch := a_ref07split r.es hr.lf.ok.bd c2 (by omega)
        have e : halvN r = (leafOf (r.es.take (lfCut r.es)), leafOf (r.es.drop (lfCut r.es)), keyAt r.es (lfCut r.es), true) := by rw [e0]; unfold halvL; rw [if_pos c2]
        rw [e]
        dsimp only
        rw [if_pos rfl]
        unfold tup4 leafOf
        dsimp only
        clear e e0
        generalize r.es.take (lfCut r.es) = A at *
        generalize r.es.drop (lfCut r.es) = B at *
        generalize keyAt r.es (lfCut r.es) = X at *
        refine AFn_intro Tryz.func24 rfl Tryz.ntmps24 rfl (by simp) [_, _, _, _] rfl fun E hE => ?_; have hnt : (!true) = false := rfl; have hnf : (!false) = true := rfl
        have d1 := acall Tryz.func49 (ch) (by decide +kernel) (by decide +kernel)
        refine wI ?_
        exact fin ⟨res_varl rfl rfl rfl (fun _ => by (repeat (first | exact wkl0 | refine wkd rfl ?_ | refine wkt ?_ | refine wkn ?_))), res_varl rfl rfl rfl (fun _ => by (repeat (first | exact wkl0 | refine wkd rfl ?_ | refine wkt ?_ | refine wkn ?_))), res_varl rfl rfl rfl (fun _ => by (repeat (first | exact wkl0 | refine wkd rfl ?_ | refine wkt ?_ | refine wkn ?_))), res_of rfl rfl rfl, trivial⟩
      · have ch := a_ref07split_no r.es (by omega)
        have e : halvN r = (ndZ, ndZ, Key.zero, false) := by rw [e0]; unfold halvL; rw [if_neg c2]
        rw [e]
        dsimp only
        rw [if_neg (by simp)]
        unfold tup4 ndZ
        dsimp only
        refine AFn_intro Tryz.func24 rfl Tryz.ntmps24 rfl (by simp) [_, _, _, _] rfl fun E hE => ?_; have hnt : (!true) = false := rfl; have hnf : (!false) = true := rfl
        have d1 := acall Tryz.func49 (ch) (by decide +kernel) (by decide +kernel)
        refine wI ?_
        exact fin ⟨res_var rfl rfl rfl rfl, res_varl rfl rfl rfl (fun _ => by (repeat (first | exact wkl0 | refine wkd rfl ?_ | refine wkt ?_ | refine wkn ?_))), res_varl rfl rfl rfl (fun _ => by (repeat (first | exact wkl0 | refine wkd rfl ?_ | refine wkt ?_ | refine wkn ?_))), res_of rfl rfl rfl, trivial⟩
  · rw [splitR_no hok]
    unfold tup4 ndZ
    dsimp only
    by_cases h0 : a = b
    · refine AFn_intro Tryz.func24 rfl Tryz.ntmps24 rfl (by simp) [_, _, _, _] rfl fun E hE => ?_; have hnt : (!true) = false := rfl; have hnf : (!false) = true := rfl
      refine wI ?_
      exact fin ⟨res_var rfl rfl rfl rfl, res_varl rfl rfl rfl (fun _ => by (repeat (first | exact wkl0 | refine wkd rfl ?_ | refine wkt ?_ | refine wkn ?_))), res_varl rfl rfl rfl (fun _ => by (repeat (first | exact wkl0 | refine wkd rfl ?_ | refine wkt ?_ | refine wkn ?_))), res_of rfl rfl rfl, trivial⟩
    · by_cases h1 : a < 1
      · refine AFn_intro Tryz.func24 rfl Tryz.ntmps24 rfl (by simp) [_, _, _, _] rfl fun E hE => ?_; have hnt : (!true) = false := rfl; have hnf : (!false) = true := rfl
        refine wI ?_
        exact fin ⟨res_var rfl rfl rfl rfl, res_varl rfl rfl rfl (fun _ => by (repeat (first | exact wkl0 | refine wkd rfl ?_ | refine wkt ?_ | refine wkn ?_))), res_varl rfl rfl rfl (fun _ => by (repeat (first | exact wkl0 | refine wkd rfl ?_ | refine wkt ?_ | refine wkn ?_))), res_of rfl rfl rfl, trivial⟩
      · by_cases h2 : a ≥ 256
        · refine AFn_intro Tryz.func24 rfl Tryz.ntmps24 rfl (by simp) [_, _, _, _] rfl fun E hE => ?_; have hnt : (!true) = false := rfl; have hnf : (!false) = true := rfl
          refine wI ?_
          exact fin ⟨res_var rfl rfl rfl rfl, res_varl rfl rfl rfl (fun _ => by (repeat (first | exact wkl0 | refine wkd rfl ?_ | refine wkt ?_ | refine wkn ?_))), res_varl rfl rfl rfl (fun _ => by (repeat (first | exact wkl0 | refine wkd rfl ?_ | refine wkt ?_ | refine wkn ?_))), res_of rfl rfl rfl, trivial⟩
        · by_cases h3 : b < 1
          · refine AFn_intro Tryz.func24 rfl Tryz.ntmps24 rfl (by simp) [_, _, _, _] rfl fun E hE => ?_; have hnt : (!true) = false := rfl; have hnf : (!false) = true := rfl
            refine wI ?_
            exact fin ⟨res_var rfl rfl rfl rfl, res_varl rfl rfl rfl (fun _ => by (repeat (first | exact wkl0 | refine wkd rfl ?_ | refine wkt ?_ | refine wkn ?_))), res_varl rfl rfl rfl (fun _ => by (repeat (first | exact wkl0 | refine wkd rfl ?_ | refine wkt ?_ | refine wkn ?_))), res_of rfl rfl rfl, trivial⟩
          · by_cases h4 : b ≥ 256
            · refine AFn_intro Tryz.func24 rfl Tryz.ntmps24 rfl (by simp) [_, _, _, _] rfl fun E hE => ?_; have hnt : (!true) = false := rfl; have hnf : (!false) = true := rfl
              refine wI ?_
              exact fin ⟨res_var rfl rfl rfl rfl, res_varl rfl rfl rfl (fun _ => by (repeat (first | exact wkl0 | refine wkd rfl ?_ | refine wkt ?_ | refine wkn ?_))), res_varl rfl rfl rfl (fun _ => by (repeat (first | exact wkl0 | refine wkd rfl ?_ | refine wkt ?_ | refine wkn ?_))), res_of rfl rfl rfl, trivial⟩
            · exact absurd ⟨h0, ⟨by omega, by omega⟩, by omega, by omega⟩ hok
set_option maxRecDepth 100000 in
set_option maxHeartbeats 4000000 in
theorem a_same10 (a b : Nd) (h : a.Sm) : AFn Tryz.prog 14 [a.av, b.av] (boolA (decide (a = b))) := by
  have c1 := a_refsame a b h
  refine AFn_intro Tryz.func14 rfl Tryz.ntmps14 rfl (by simp) [_] rfl fun E hE => ?_; have hnt : (!true) = false := rfl; have hnf : (!false) = true := rfl
  have d1 := acall Tryz.func40 (c1) (by decide +kernel) (by decide +kernel)
  refine wI ?_
  exact fin ⟨res_of rfl rfl rfl, trivial⟩
end Go.Proofs.YtonjbnoeoececaaGreat

namespace Go.Proofs.YtonjbnoeoececaaGreat
open Go Go.RowKit
set_option linter.unusedVariables false
set_option linter.unusedSimpArgs false
set_option maxRecDepth 100000

theorem AFn_weak {P : Program} {f : FuncId} {xs ys : List AV} {r : AV} (h : AFn P f ys r) (hw : ∀ H, WkL H xs ys) : AFn P f xs r := fun U w vs hr => h U w vs ((hw H0).rdp hr)
theorem piv3 (p : List Int) : (pivK (16 :: p) 3).length ≤ 3 := by
  have := pivK_le (16 :: p) 3 (by omega)
  omega
theorem innerN_sm (p : List Int) (v : Int) (l : List Int) : (innerN p v l).Sm := by
  have h1 := piv3 p
  have h2 := msgList_len l 205
  have h3 := kidsL_len v ((pivK (16 :: p) 3).length + 1)
  exact ⟨Nat.zero_le _, by show (kidsL v _).length ≤ _; omega, by show (pivK _ _).length ≤ _; omega, by show (msgList _ _).length ≤ _; omega⟩
theorem leafN_sm (l : List Int) : (leafN l).Sm := ⟨by have := entList_len l 248; show (entList l 248).length ≤ _; omega, Nat.zero_le _, Nat.zero_le _, Nat.zero_le _⟩
theorem innerN_ok (p : List Int) (v : Int) (l : List Int) : nodeOk keyCmp (innerN p v l) = true := by
  unfold nodeOk innerOk
  rw [if_neg (show ¬ (innerN p v l).leaf = true from by simp [innerN])]
  rw [show fanOkBy keyCmp (innerN p v l).ks (innerN p v l).ps = true from two_ok v p, show msgsOkB keyCmp (innerN p v l).ms = true from msgsOkB_true (msgList_bf l 205).msgs]
  rfl
theorem innerN_sum (p : List Int) (v : Int) (l : List Int) : bSum (innerN p v l).ms ≤ 205 := msgList_sum l 205 (by omega)
theorem innerN_fits (p : List Int) (v : Int) (l : List Int) : nodeFits (innerN p v l) = true := by
  unfold nodeFits
  rw [innerN_ok]
  have := innerN_sum p v l
  rw [if_neg (show ¬ (innerN p v l).leaf = true from by simp [innerN])]
  rw [Bool.true_and, decide_eq_true_eq]
  unfold ndBytes
  rw [if_neg (show ¬ (innerN p v l).leaf = true from by simp [innerN])]
  exact this
theorem leafN_ok (l : List Int) : nodeOk keyCmp (leafN l) = true := by
  unfold nodeOk leafOk
  rw [if_pos (show (leafN l).leaf = true from rfl)]
  rw [show entsOkB keyCmp (leafN l).es = true from entsOkB_true (entList_lf l 248).ents]
  rfl
theorem leafN_ebd (l : List Int) : EBd (leafN l).es := (entList_lf l 248).ok.bd
theorem leafN_fits (l : List Int) : nodeFits (leafN l) = true := by
  unfold nodeFits ndBytes
  rw [leafN_ok, if_pos (show (leafN l).leaf = true from rfl), if_pos (show (leafN l).leaf = true from rfl), Bool.true_and, decide_eq_true_eq]
  exact entsF_sum l 248 (by omega) 80
/-! ### all weights together -/
theorem wts_sum (n : Nd) (hr : Rise n.ps) : ∀ j, j ≤ n.ps.length + 1 → (wtsAt n j).sum = bSum (n.ms.take (accP n.ps n.ms j))
  | 0, _ => by rw [accP_zero]; rfl
  | j + 1, h => by
    rw [wtsAt_succ, List.sum_append, wts_sum n hr j (by omega), ← accP_step hr n.ms j (by omega), bSum_append]
    simp
theorem wts_all (n : Nd) (hr : Rise n.ps) (hk : n.ks.length = n.ps.length + 1) : (wtsAt n n.ks.length).sum = bSum n.ms := by
  rw [wts_sum n hr _ (by omega), hk, accP_end, List.take_length]
theorem wts_nn (n : Nd) (j : Nat) : ∀ x ∈ wtsAt n j, 0 ≤ x := fun x hx => by
  obtain ⟨i, _, rfl⟩ := List.mem_map.1 hx
  exact (bSum_le _).1
theorem sum_zero : ∀ (w : List Int), (∀ x ∈ w, x = 0) → w.sum = 0
  | [], _ => rfl
  | x :: l, h => by rw [List.sum_cons, h x List.mem_cons_self, sum_zero l (fun y hy => h y (List.mem_cons_of_mem _ hy))]; rfl
theorem sum_nn : ∀ (w : List Int), (∀ x ∈ w, 0 ≤ x) → 0 ≤ w.sum ∧ ∀ x ∈ w, x ≤ w.sum
  | [], _ => ⟨Int.le_refl _, fun x h => by cases h⟩
  | y :: l, h => by
    obtain ⟨h1, h2⟩ := sum_nn l (fun z hz => h z (List.mem_cons_of_mem _ hz))
    have h3 := h y List.mem_cons_self
    rw [List.sum_cons]
    refine ⟨by omega, fun x hx => ?_⟩
    rcases List.mem_cons.1 hx with rfl | hx
    · omega
    · have := h2 x hx; omega
theorem size_pos {m : Msg} (h : m.ok = true) : 0 < m.size := by
  have h1 := (Msg.spec h).2.2.1
  have h2 := Key.n_le h1
  unfold Msg.size
  rw [if_pos h]
  split
  · have := Vl.n_le (Msg.spec h).2.2.2.1; omega
  · split <;> omega
theorem bSum_zero {l : List Msg} (h : Bf l) (h0 : bSum l = 0) : l = [] := by
  cases l with
  | nil => rfl
  | cons m l =>
    have h1 := size_pos (h.ok m List.mem_cons_self)
    have h2 := (bSum_le l).1
    have : bSum (m :: l) = m.size + bSum l := by simp [bSum]
    omega
theorem hv_bd (w : List Int) : -1 ≤ hvOf w ∧ hvOf w < (w.length : Int) := by
  unfold hvOf
  rcases hvAt_is w w.length (Nat.le_refl _) with ⟨e1, _, _⟩ | ⟨a, ha, _, e1, _⟩
  · rw [e1]; omega
  · rw [e1]; omega
/-- none is heaviest just if there is nothing -/
theorem hv_none (n : Nd) (hb : Bf n.ms) (hr : Rise n.ps) (hk : n.ks.length = n.ps.length + 1) : hvOf (wtsAt n n.ks.length) = -1 ↔ n.ms = [] := by
  have hs := wts_all n hr hk
  have hn := wts_nn n n.ks.length
  unfold hvOf
  rcases hvAt_is (wtsAt n n.ks.length) _ (Nat.le_refl _) with ⟨e1, _, e3⟩ | ⟨a, ha, _, e1, _, e3, _⟩
  · constructor
    · intro _
      apply bSum_zero hb
      rw [← hs]
      apply sum_zero
      intro x hx
      obtain ⟨i, hi, rfl⟩ := List.getElem_of_mem hx
      have := e3 i hi hi
      have := hn _ hx
      omega
    · intro _; exact e1
  · constructor
    · intro h; rw [e1] at h; omega
    · intro h
      rw [h] at hs
      have h1 := (sum_nn _ hn).2 _ (List.getElem_mem ha)
      have h2 : bSum ([] : List Msg) = 0 := rfl
      omega
theorem innerN_kids (p : List Int) (v : Int) (l : List Int) : (innerN p v l).ks.length = (innerN p v l).ps.length + 1 := kidsL_len v _
theorem innerN_bf (p : List Int) (v : Int) (l : List Int) : Bf (innerN p v l).ms := msgList_bf l 205
theorem innerN_rise (p : List Int) (v : Int) (l : List Int) : Rise (innerN p v l).ps := pivK_rise _ _
def wtsN (p : List Int) (v : Int) (l : List Int) : List Int := wtsAt (innerN p v l) (innerN p v l).ks.length
theorem wtsN_len (p : List Int) (v : Int) (l : List Int) : (wtsN p v l).length = (innerN p v l).ks.length := wtsAt_len _ _
theorem wtsN_le (p : List Int) (v : Int) (l : List Int) : (wtsN p v l).length ≤ 4 := by
  rw [wtsN_len, innerN_kids]
  have := piv3 p
  show (pivK _ _).length + 1 ≤ 4
  omega
theorem hvN_none (p : List Int) (v : Int) (l : List Int) : hvOf (wtsN p v l) = -1 ↔ (innerN p v l).ms = [] := hv_none _ (innerN_bf p v l) (innerN_rise p v l) (innerN_kids p v l)
theorem bfAdd_ne (l : List Msg) (m : Msg) : bfAdd l m ≠ [] := by unfold bfAdd bfSet; simp
theorem msgsF_ne (l : List Int) : ∀ j, msgsF l 205 (j + 1) ≠ []
  | 0 => by
    show msgStep 205 [] _ ≠ []
    unfold msgStep
    have h1 := (bSum_le (bfAdd [] (lawMsg (l.getD 0 0) ((0 + 1 : Nat) : Int)))).2
    have h2 : (bfAdd [] (lawMsg (l.getD 0 0) ((0 + 1 : Nat) : Int))).length = 1 := rfl
    rw [if_pos (Int.le_trans h1 (by rw [h2]; decide))]
    exact bfAdd_ne _ _
  | j + 1 => by
    show msgStep 205 (msgsF l 205 (j + 1)) _ ≠ []
    unfold msgStep
    split
    · exact bfAdd_ne _ _
    · exact msgsF_ne l j
theorem msgList_some (x : Int) (l : List Int) : msgList (x :: l) 205 ≠ [] := by
  unfold msgList
  have h : min (x :: l).length 60 = (min l.length 59) + 1 := by simp only [List.length_cons]; omega
  rw [h]
  exact msgsF_ne _ _
end Go.Proofs.YtonjbnoeoececaaGreat

namespace Go.Proofs.YtonjbnoeoececaaGreat
open Go Go.RowKit
set_option linter.unusedVariables false
set_option linter.unusedSimpArgs false
set_option maxRecDepth 100000

theorem lawKey_ne {v u : Int} (h : keyText (v % 1099511627776).toNat ≠ keyText (u % 1099511627776).toNat) : lawKey v ≠ lawKey u := fun e => by
  apply h
  have := congrArg Key.txt e
  unfold lawKey at this
  rwa [mkKey_txt _ (keyText_length _), mkKey_txt _ (keyText_length _)] at this
theorem put_new {l : List Ent} (h : Lf l) {m : Msg} (hm : m.ok = true) (hk : m.kind = 1) (hg : lfGet m.key l = none) : (lfPut l m).length = l.length + 1 := by
  have hn : ∀ (hi : lfAt m.key l < l.length), l[lfAt m.key l].key ≠ m.key := fun hi e => by
    rw [get_hit h.srt hi e] at hg; cases hg
  unfold lfPut
  rw [set_no h (Msg.spec hm).2.2.1 _ hn]
  have : (newE m.key (ap m (lfGet m.key l))).length = 1 := by unfold ap; rw [if_pos hk]; rfl
  have hle := lfAt_le m.key l
  simp only [List.length_append, List.length_take, List.length_drop, this]
  omega
theorem entStep_new {out : List Ent} {x : Int} (h : Lf out) (hl : out.length ≤ 10) (hg : lfGet (entMsg x).key out = none) : entStep 2000 out x = lfPut out (entMsg x) := by
  unfold entStep
  have h2 := lf_put h (entMsg_ok x)
  have h3 := h2.ok.bd.sum
  rw [put_new h (entMsg_ok x) rfl hg] at h3
  rw [if_pos (by omega)]
theorem aw7_len : (entList [0, 8, 16] 2000).length = 3 := by
  have n1 : lawKey 8 ≠ lawKey 0 := lawKey_ne (by decide)
  have n2 : lawKey 16 ≠ lawKey 0 := lawKey_ne (by decide)
  have n3 : lawKey 16 ≠ lawKey 8 := lawKey_ne (by decide)
  have k0 : (entMsg 0).key = lawKey 0 := rfl
  have k8 : (entMsg 8).key = lawKey 8 := rfl
  have k16 : (entMsg 16).key = lawKey 16 := rfl
  have e : entList [0, 8, 16] 2000 = entStep 2000 (entStep 2000 (entStep 2000 [] 0) 8) 16 := rfl
  have g0 : lfGet (entMsg 0).key [] = none := rfl
  have l0 := lf_put lf_nil (entMsg_ok 0)
  have z0 := put_new lf_nil (entMsg_ok 0) rfl g0
  have g8 : lfGet (entMsg 8).key (lfPut [] (entMsg 0)) = none := by
    rw [k8, get_put lf_nil (entMsg_ok 0) (lawKey_ok _), k0, if_neg n1]; rfl
  have l8 := lf_put l0 (entMsg_ok 8)
  have z8 := put_new l0 (entMsg_ok 8) rfl g8
  have g16 : lfGet (entMsg 16).key (lfPut (lfPut [] (entMsg 0)) (entMsg 8)) = none := by
    rw [k16, get_put l0 (entMsg_ok 8) (lawKey_ok _), k8, if_neg n3, get_put lf_nil (entMsg_ok 0) (lawKey_ok _), k0, if_neg n2]; rfl
  have z16 := put_new l8 (entMsg_ok 16) rfl g16
  rw [e, entStep_new lf_nil (by simp) g0, entStep_new l0 (by rw [z0]; simp) g8, entStep_new l8 (by rw [z8, z0]; simp) g16, z16, z8, z0]
  rfl
theorem aw7_put : (lfPut [] (lawMsg 0 1)).length = 1 := put_new lf_nil (lawMsg_ok 0 1) (by unfold lawMsg; decide) rfl
theorem split_lens {l : List Ent} (h : 2 ≤ l.length) : (l.take (lfCut l)).length + (l.drop (lfCut l)).length = l.length ∧ 0 < (l.take (lfCut l)).length ∧ 0 < (l.drop (lfCut l)).length := by
  obtain ⟨h1, h2, _⟩ := lfCut_spec h
  rw [List.length_take, List.length_drop]
  omega
theorem split_key {l : List Ent} (h : 2 ≤ l.length) (h' : 0 < (l.drop (lfCut l)).length) : keyAt l (lfCut l) = (l.drop (lfCut l))[0].key := by
  obtain ⟨h1, h2, _⟩ := lfCut_spec h
  rw [keyAt_eq h2, drop_zero_at h2 h']
attribute [local irreducible] OpOK AWops AW CondB Go2 AFn thenA inBlockA noGotoA orderOk wantedA
end Go.Proofs.YtonjbnoeoececaaGreat

namespace Go.Proofs.YtonjbnoeoececaaGreat
open Go Go.RowKit
set_option linter.unusedVariables false
set_option linter.unusedSimpArgs false
set_option maxRecDepth 100000

theorem rank_lt_of_cmp {a b : Key} (h : keyCmp a b = -1) : a.rank < b.rank := by
  rw [keyCmp_rank] at h
  unfold sgn at h
  split at h
  · assumption
  · split at h <;> omega
def k0 : Key := lawKey 0
def k8 : Key := lawKey 8
def e0 : Ent := ⟨k0, (entMsg 0).val⟩
def e8 : Ent := ⟨k8, (entMsg 8).val⟩
theorem k08 : k0.rank < k8.rank := rank_lt_of_cmp (by
  unfold keyCmp k0 k8 lawKey
  rw [mkKey_txt _ (keyText_length _), mkKey_txt _ (keyText_length _)]
  decide)
theorem one_put : lfPut [] (entMsg 0) = [e0] := rfl
theorem two_put : lfPut [e0] (entMsg 8) = [e0, e8] := by
  have h1 : decide (e0.key.rank < k8.rank) = true := decide_eq_true k08
  have h2 : decide (k8.rank < e0.key.rank) = false := decide_eq_false (by have := k08; show ¬ k8.rank < k0.rank; omega)
  show List.filter (fun e => decide (e.key.rank < k8.rank)) [e0] ++ ([e8] ++ List.filter (fun e => decide (k8.rank < e.key.rank)) [e0]) = _
  rw [show List.filter (fun e => decide (e.key.rank < k8.rank)) [e0] = [e0] from List.filter_eq_self.2 (fun a ha => by rw [List.mem_singleton.1 ha]; exact h1), show List.filter (fun e => decide (k8.rank < e.key.rank)) [e0] = [] from List.filter_eq_nil_iff.2 (fun a ha => by rw [List.mem_singleton.1 ha, h2]; simp)]
  rfl
theorem takeN_leafOf (es : List Ent) (l : List Msg) : takeN (leafOf es) l = leafOf (lfAll es l) := by
  unfold takeN
  rw [if_pos (show (leafOf es).leaf = true from rfl)]
  rfl
theorem leaf08 : leafN [0, 8] = leafOf [e0, e8] := by
  have h1 : entStep 248 [] 0 = [e0] := by
    unfold entStep
    rw [one_put, if_pos]
    have := (lf_put lf_nil (entMsg_ok 0)).ok.bd.sum
    rw [one_put] at this
    have h2 : ([e0] : List Ent).length = 1 := rfl
    omega
  have h2 : entStep 248 [e0] 8 = [e0, e8] := by
    unfold entStep
    rw [two_put, if_pos]
    have := (lf_put (lf_put lf_nil (entMsg_ok 0)) (entMsg_ok 8)).ok.bd.sum
    rw [one_put, two_put] at this
    have h2 : ([e0, e8] : List Ent).length = 2 := rfl
    omega
  have h3 : entList [0, 8] 248 = entStep 248 (entStep 248 [] 0) 8 := rfl
  unfold leafN leafOf
  rw [h3, h1, h2]
theorem lf08 : Lf [e0, e8] := by
  have := lf_put (lf_put lf_nil (entMsg_ok 0)) (entMsg_ok 8)
  rwa [one_put, two_put] at this
theorem lf0 : Lf [e0] := by
  have := lf_put lf_nil (entMsg_ok 0)
  rwa [one_put] at this
theorem leafOf_gd {es : List Ent} (h : Lf es) (hl : es.length ≤ 100000) : (leafOf es).Gd := ⟨h, bf_nil, rise_nil, hl, Nat.zero_le _, Nat.zero_le _, Nat.zero_le _⟩
theorem leafOf_fits' {es : List Ent} (h : Lf es) (hs : eSum es ≤ 248) : nodeFits (leafOf es) = true := by
  have hok : nodeOk keyCmp (leafOf es) = true := by
    unfold nodeOk leafOk
    rw [if_pos (show (leafOf es).leaf = true from rfl)]
    rw [show entsOkB keyCmp (leafOf es).es = true from entsOkB_true h.ents]
    rfl
  unfold nodeFits ndBytes
  rw [hok, if_pos (show (leafOf es).leaf = true from rfl), if_pos (show (leafOf es).leaf = true from rfl), Bool.true_and, decide_eq_true_eq]
  exact hs
theorem leafOf_fits {es : List Ent} (h : Lf es) (hl : es.length ≤ 9) : nodeFits (leafOf es) = true := leafOf_fits' h (by have := h.ok.bd.sum; omega)
theorem cut08 : lfCut [e0, e8] = 1 := by
  have := lfCut_spec (l := [e0, e8]) (by simp)
  have h2 : ([e0, e8] : List Ent).length = 2 := rfl
  omega
theorem halv08 : halvL [e0, e8] = (leafOf [e0], leafOf [e8], k8, true) := by
  unfold halvL
  rw [if_pos (by simp), cut08]
  rfl
def m0 : Msg := ⟨2, 1#64, k0, Vl.zero, 0#64⟩
theorem m0_ok : m0.ok = true := Msg.mkOk ⟨by show (1 : Int) ≤ 2; omega, by show (2 : Int) ≤ 3; omega⟩ (lawKey_ok 0) (by rw [if_neg (by show ¬ (2 : Int) = 1; omega)]) (fun h => rfl)
def pp : Nd := ⟨false, [], [3, 4], [k8], [m0]⟩
theorem m0_bf : Bf [m0] := ⟨fun m hm => by rw [List.mem_singleton.1 hm]; exact m0_ok, List.pairwise_singleton _ _⟩
theorem pp_gd : pp.Gd := ⟨lf_nil, m0_bf, rise_one (lawKey_ok 8), by simp [pp], by simp [pp], by simp [pp], by simp [pp]⟩
theorem at08 : bfAt k8 [m0] = 1 := by
  unfold bfAt
  rw [List.countP_cons_of_pos (by rw [decide_eq_true_eq]; exact k08)]
  rfl
theorem goes0 : goesN pp 0 = [m0] := by
  have h1 : partI pp.ms pp.ps 0 = [m0] := by
    show partI [m0] [k8] 0 = _
    unfold partI
    rw [if_pos ⟨by omega, by simp⟩]
    show ([m0].take (bfAt k8 [m0])).drop 0 = _
    rw [at08]; rfl
  have h2 := batch_facts [m0]
  have h3 : ([m0] : List Msg).length = 1 := rfl
  unfold goesN
  rw [h1]
  exact List.take_of_length_le (by omega)
theorem goes1 : goesN pp 1 = [] := by
  have h1 : partI pp.ms pp.ps 1 = [] := by
    show partI [m0] [k8] 1 = _
    unfold partI
    rw [if_pos ⟨by omega, by simp⟩]
    show ([m0].take 1).drop (bfAt k8 [m0]) = _
    rw [at08]; rfl
  unfold goesN
  rw [h1]; rfl
theorem less0 : lessN pp [m0] = ⟨false, [], [3, 4], [k8], []⟩ := by
  unfold lessN pp
  have : bfLess [m0] [m0] = [] := by simp [bfLess, goneP, bfGet]
  dsimp only
  rw [this]
theorem take0 : takeN (leafOf [e0]) [m0] = leafOf [] := by
  have : lfPut [e0] m0 = [] := by
    show List.filter (fun e => decide (e.key.rank < k0.rank)) [e0] ++ ([] ++ List.filter (fun e => decide (k0.rank < e.key.rank)) [e0]) = _
    have h : e0.key = k0 := rfl
    rw [show List.filter (fun e => decide (e.key.rank < k0.rank)) [e0] = [] from List.filter_eq_nil_iff.2 (fun a ha => by rw [List.mem_singleton.1 ha, h]; simp), show List.filter (fun e => decide (k0.rank < e.key.rank)) [e0] = [] from List.filter_eq_nil_iff.2 (fun a ha => by rw [List.mem_singleton.1 ha, h]; simp)]
    rfl
  rw [takeN_leafOf]
  show leafOf (lfPut [e0] m0) = _
  rw [this]
theorem push0 : pushN pp (leafOf [e0]) 0 = (⟨false, [], [3, 4], [k8], []⟩, leafOf [], true) := by
  unfold pushN
  rw [if_pos ⟨rfl, by omega, by show (0 : Int) < 2; omega⟩, goes0, take0, less0, if_neg]
  rw [leafOf_fits lf_nil (by simp)]
  rintro (h | h)
  · cases h
  · cases h
theorem splitI0 : splitI pp (leafOf [e0]) 0 9 = (pp, leafOf [e0], ndZ, false) := splitI_no (fun h => by cases h.2)
theorem splitL1 : splitL pp (leafOf [e0, e8]) 1 9 = (withKid (lessN pp []) 1 k8 9, leafOf [e0], leafOf [e8], true) := by
  have h1 : partsOk pp 1 9 := ⟨rfl, by show 2 < 4; omega, by omega, by show (1 : Int) < 2; omega, ⟨by omega, by omega⟩, by show idxOf [3, 4] 9 < 0; decide⟩
  have h2 : takeN (leafOf [e0, e8]) [] = leafOf [e0, e8] := rfl
  rw [splitL_yes ⟨h1, rfl⟩, goes1, h2, show (leafOf [e0, e8]).es = [e0, e8] from rfl, halv08]
  rfl
theorem splitR34 : splitR (leafOf [e0, e8]) 3 4 = (⟨false, [], [3, 4], [k8], []⟩, leafOf [e0], leafOf [e8], true) := by
  have h2 : halvN (leafOf [e0, e8]) = halvL [e0, e8] := by unfold halvN; rw [if_pos (show (leafOf [e0, e8]).leaf = true from rfl)]; rfl
  rw [splitR_yes ⟨by omega, ⟨by omega, by omega⟩, by omega, by omega⟩, h2, halv08]
  rfl
theorem put_ge {l : List Ent} (h : Lf l) {m : Msg} (hm : m.ok = true) (hk : m.kind ≠ 2) : l.length ≤ (lfPut l m).length := by
  have hn : (newE m.key (ap m (lfGet m.key l))).length = 1 := by
    unfold ap
    split
    · rfl
    · first | (rw [if_neg hk]; split <;> rfl) | (split <;> rfl)
  have hle := lfAt_le m.key l
  unfold lfPut
  by_cases c : ∃ hi : lfAt m.key l < l.length, l[lfAt m.key l].key = m.key
  · obtain ⟨hi, he⟩ := c
    rw [set_hit h.srt _ hi he]
    simp only [List.length_append, List.length_take, List.length_drop, hn]
    omega
  · rw [set_no h (Msg.spec hm).2.2.1 _ (fun hi he => c ⟨hi, he⟩)]
    simp only [List.length_append, List.length_take, List.length_drop, hn]
    omega
theorem ins5 : ∃ L : List Ent, insN (leafOf [e0, e8]) (lawMsg 5 1) = (leafOf L, true) ∧ (L.length = 2 ∨ L.length = 3) := by
  have hm := lawMsg_ok 5 1
  have h1 := put_ge lf08 hm (by unfold lawMsg; decide)
  have h2 := put_len [e0, e8] (lawMsg 5 1)
  have h3 : ([e0, e8] : List Ent).length = 2 := rfl
  have h4 : takeN (leafOf [e0, e8]) [lawMsg 5 1] = leafOf (lfPut [e0, e8] (lawMsg 5 1)) := takeN_leafOf _ _
  refine ⟨lfPut [e0, e8] (lawMsg 5 1), ?_, by omega⟩
  unfold insN
  rw [h4, leafOf_fits (lf_put lf08 hm) (by omega), if_pos rfl]
theorem av_m0 : m0.av = .agg 29 [intA 2, .v (.int .u64 1), k0.av, Vl.zero.av, u64A 0#64] := by
  unfold m0 Msg.av u64A
  rw [show D64 1#64 = 1 from by rw [D64_def]; rfl]
def ppx (Q : List Key) : AV := .agg 5 [boolA false, nilA, .sl none 1 [intA 3, intA 4], keysA Q, .sl none 29 [.agg 29 [intA 2, .v (.int .u64 1), k0.av, Vl.zero.av, u64A 0#64]]]
theorem ppx_wk (H : Hp) : Wk H (ppx [k8]) pp.av := by
  have e : pp.av = .agg 5 [boolA false, .sl none 26 [], .sl none 1 [intA 3, intA 4], keysA [k8], .sl none 29 [m0.av]] := rfl
  rw [e, av_m0]
  exact Wk.agg (.cons (Wk.data rfl) (.cons Wk.nil (.cons (Wk.data rfl) (.cons (Wk.data rfl) (.cons (Wk.data rfl) .nil)))))
def rr : Nd := ⟨false, [], [3, 4], [k8], []⟩
def xx : Nd := leafOf [e0]
def yy : Nd := leafOf [e8]
def cc : Nd := leafOf []
attribute [local irreducible] OpOK AWops AW CondB Go2 AFn thenA inBlockA noGotoA orderOk wantedA
set_option maxRecDepth 100000 in
set_option maxHeartbeats 4000000 in
theorem a_awake10 : AFn Tryz.prog 16 [] (boolA true) := by
  have c1 := a_lleaf [0, 8] (by simp)
  have c2 := a_splitroot (leafOf [e0, e8]) (leafOf_gd lf08 (by simp)) 3 4
  have c3 := a_lmsg 5 1 (by omega) (by omega)
  have c4 := a_actinsert (leafOf [e0, e8]) (leafOf_gd lf08 (by simp)) (lawMsg 5 1) (lawMsg_ok 5 1)
  have c5 := a_lkey 0 (by omega)
  have c6 := AFn_weak (a_actpush pp (leafOf [e0]) pp_gd (leafOf_gd lf0 (by simp)) 0) (fun H => .cons (ppx_wk H) (.cons (Wk.data rfl) (.cons (Wk.data rfl) .nil)))
  have c7 := AFn_weak (a_splitinner pp (leafOf [e0]) pp_gd (leafOf_gd lf0 (by simp)) (by simp [pp]) 0 9) (fun H => .cons (ppx_wk H) (.cons (Wk.data rfl) (.cons (Wk.data rfl) (.cons (Wk.data rfl) .nil))))
  have c8 := AFn_weak (a_splitleaf pp (leafOf [e0, e8]) pp_gd (leafOf_gd lf08 (by simp)) (by simp [pp]) (by simp [pp, leafOf]) (by simp [pp, leafOf]) 1 9) (fun H => .cons (ppx_wk H) (.cons (Wk.data rfl) (.cons (Wk.data rfl) (.cons (Wk.data rfl) .nil))))
  obtain ⟨L, hins, hL⟩ := ins5
  rw [leaf08] at c1
  rw [splitR34] at c2
  rw [hins] at c4
  rw [push0] at c6
  rw [splitI0] at c7
  rw [splitL1] at c8
  rw [show lawKey 0 = k0 from rfl] at c5
  replace c2 : AFn Tryz.prog 23 [(leafOf [e0, e8]).av, intA 3, intA 4] (.tup [rr.av, xx.av, yy.av, boolA true]) := c2
  replace c6 : AFn Tryz.prog 17 [ppx rr.ps, xx.av, intA 0] (.tup [rr.av, cc.av, boolA true]) := c6
  replace c7 : AFn Tryz.prog 21 [ppx rr.ps, xx.av, intA 0, intA 9] (.tup [pp.av, xx.av, ndZ.av, boolA false]) := c7
  replace c8 : AFn Tryz.prog 19 [ppx rr.ps, (leafOf [e0, e8]).av, intA 1, intA 9] (.tup [(withKid (lessN pp []) 1 k8 9).av, xx.av, yy.av, boolA true]) := c8
  have hn : ∃ n : Nd, leafOf L = n ∧ (n.es.length = 2 ∨ n.es.length = 3) := ⟨_, rfl, hL⟩
  obtain ⟨n, hn, hnl⟩ := hn
  dsimp only at c4
  rw [hn] at c4
  have h1 : rr.ps.length = 1 := rfl
  have h2 : xx.es.length = 1 := rfl
  have h3 : yy.es.length = 1 := rfl
  have h4 : rr.ms.length = 0 := rfl
  have h5 : cc.es.length = 0 := rfl
  have p1 : 0 < rr.ps.length := by rw [h1]; exact Nat.one_pos
  have p2 : 0 < yy.es.length := by rw [h3]; exact Nat.one_pos
  have hq : rr.ps[0]'p1 = (yy.es[0]'p2).key := rfl
  clear hins hn hL
  generalize leafOf [e0, e8] = z3 at *
  generalize withKid (lessN pp []) 1 k8 9 = z1 at *
  generalize pp = z2 at *
  generalize lawMsg 5 1 = z4 at *
  generalize rr = r at *
  generalize xx = x at *
  generalize yy = y at *
  generalize cc = c at *
  refine AFn_intro Tryz.func16 rfl Tryz.ntmps16 rfl (by simp) [_] rfl fun E hE => ?_; have hnt : (!true) = false := rfl; have hnf : (!false) = true := rfl
  have d1 := acall Tryz.func11 (c1) (by decide +kernel) (by decide +kernel)
  have d2 := acall Tryz.func23 (c2) (by decide +kernel) (by decide +kernel)
  have d3 := acall Tryz.func9 (c3) (by decide +kernel) (by decide +kernel)
  have d4 := acall Tryz.func10 (c4) (by decide +kernel) (by decide +kernel)
  have d5 := acall Tryz.func27 (c5) (by decide +kernel) (by decide +kernel)
  have d6 := acall Tryz.func17 (c6) (by decide +kernel) (by decide +kernel)
  have d7 := acall Tryz.func21 (c7) (by decide +kernel) (by decide +kernel)
  have d8 := acall Tryz.func19 (c8) (by decide +kernel) (by decide +kernel)
  rcases hnl with hL | hL
  · refine wI ?_
    exact fin ⟨res_yes rfl hq, trivial⟩
  · refine wI ?_
    exact fin ⟨res_yes rfl hq, trivial⟩
end Go.Proofs.YtonjbnoeoececaaGreat

namespace Go.Proofs.YtonjbnoeoececaaGreat
open Go Go.RowKit
set_option linter.unusedVariables false
set_option linter.unusedSimpArgs false
set_option maxRecDepth 100000

/-- of two parts, all that the law asks -/
theorem split_facts {l : List Ent} (h : Lf l) (h2 : 2 ≤ l.length) (hs : eSum l ≤ 344) : ∃ A B pk, l.take (lfCut l) = A ∧ l.drop (lfCut l) = B ∧ keyAt l (lfCut l) = pk ∧ A ++ B = l ∧ A.length + B.length = l.length ∧ 0 < A.length ∧ (∃ hb : 0 < B.length, B[0].key = pk) ∧ (∃ ha : A.length - 1 < A.length, refCmp A[A.length - 1].key pk < 0) ∧
    (eSum l ≤ 2 * eSum A ∨ B.length = 1) ∧ (A.length = 1 ∨ 2 * eSum (A.take (A.length - 1)) < eSum l) ∧ eSum A ≤ 248 ∧ eSum l - eSum A ≤ 248 ∧ EBd A ∧ EBd (A.take (A.length - 1)) := by
  obtain ⟨c1, c2, c3, c4⟩ := lfCut_spec h2
  obtain ⟨s1, s2, s3⟩ := split_lens h2
  have s4 := split_key h2 s3
  have hAl : (l.take (lfCut l)).length = lfCut l := by rw [List.length_take]; omega
  have hsum : eSum (l.take (lfCut l)) + eSum (l.drop (lfCut l)) = eSum l := by rw [← eSum_append, List.take_append_drop]
  have hBd := h.ok.bd
  have hBB := (hBd.drop (lfCut l)).sum
  have hlast : 2 * eSum ((l.take (lfCut l)).take (lfCut l - 1)) < eSum l ∨ lfCut l = 1 := by
    by_cases e : lfCut l = 1
    · exact .inr e
    · refine .inl ?_
      rw [List.take_take, Nat.min_eq_left (by omega)]
      exact c4 (lfCut l - 1) (by omega) (by omega)
  have hstep : eSum (l.take (lfCut l)) ≤ eSum (l.take (lfCut l - 1)) + 26 := by
    have e1 := eSum_snoc l (lfCut l - 1) (by omega)
    rw [show lfCut l - 1 + 1 = lfCut l by omega] at e1
    have e2 := hBd l[lfCut l - 1] (List.getElem_mem (by omega))
    unfold Ent.size at e1
    omega
  refine ⟨_, _, _, rfl, rfl, rfl, List.take_append_drop _ _, s1, s2, ⟨s3, s4.symm⟩, ⟨by omega, ?_⟩, ?_, ?_, ?_, ?_, hBd.take _, (hBd.take _).take _⟩
  · rw [keyAt_eq c2]
    simp only [hAl, List.getElem_take]
    rw [refCmp_rank (h.ok _ (List.getElem_mem (by omega))).1 (h.ok _ (List.getElem_mem (by omega))).1, sgn_neg]
    exact h.srt.lt (by omega) c2 (by omega)
  · rcases c3 with c3 | c3
    · right; rw [List.length_drop]; omega
    · exact .inl c3
  · rw [hAl]
    rcases hlast with h3 | h3
    · exact .inr h3
    · exact .inl h3
  · rcases hlast with h3 | h3
    · rw [List.take_take, Nat.min_eq_left (by omega)] at h3
      omega
    · have := (hBd.take (lfCut l)).sum
      rw [hAl, h3] at this
      rw [h3]; omega
  · rcases c3 with c3 | c3
    · rw [List.length_drop] at hBB
      omega
    · omega
end Go.Proofs.YtonjbnoeoececaaGreat

namespace Go.Proofs.YtonjbnoeoececaaGreat
open Go Go.RowKit
set_option linter.unusedVariables false
set_option linter.unusedSimpArgs false
set_option maxRecDepth 100000

def awP : List Key := [lawKey 24, lawKey 32]
def awB : List Key := [lawKey 8, lawKey 24, lawKey 32]
theorem aw_ins : fanIns [1, 2, 3] awP 0 (lawKey 8) 9 = ([1, 9, 2, 3], awB) := by
  unfold fanIns; rw [if_pos (by decide)]; rfl
theorem aw_k0 : kidBy keyCmp (lawKey 0) awP = 0 := by decide +kernel
theorem aw_k1 : kidBy keyCmp (lawKey 24) awP = 1 := by decide +kernel
theorem aw_k2 : kidBy keyCmp (lawKey 40) awP = 2 := by decide +kernel
theorem aw_ok : fanOkBy keyCmp [1, 9, 2, 3] awB = true := by decide +kernel
theorem aw_no : fanOkBy keyCmp [1] [] = false := by decide +kernel
attribute [local irreducible] OpOK AWops AW CondB Go2 AFn thenA inBlockA noGotoA orderOk wantedA
end Go.Proofs.YtonjbnoeoececaaGreat

namespace Go.Proofs.YtonjbnoeoececaaGreat
open Go Go.RowKit
set_option linter.unusedVariables false
set_option linter.unusedSimpArgs false
set_option maxRecDepth 100000

theorem idxOf_nodup (l : List Int) (hn : l.Nodup) (i : Nat) (h : i < l.length) : idxOf l l[i] = (i : Int) := by
  have hp := List.pairwise_iff_getElem.1 hn
  have : ∀ k j, j + k = i → idxFrom l[i] j (l.drop j) = (i : Int) := by
    intro k
    induction k with
    | zero =>
      intro j hj
      have : j = i := by omega
      subst this
      exact idxFrom_hit _ _ _ h rfl
    | succ k ih =>
      intro j hj
      rw [idxFrom_miss _ _ _ (by omega) (hp j i (by omega) h (by omega))]
      exact ih (j + 1) (by omega)
  exact this i 0 (by omega)
theorem kidsFrom_nodup (l : List Int) (hn : l.Nodup) (hr : ∀ x ∈ l, 1 ≤ x ∧ x < 256) : kidsFrom l 0 l = true := by
  have : ∀ k j, j + k = l.length → kidsFrom l j (l.drop j) = true := by
    intro k
    induction k with
    | zero => intro j hj; exact kidsFrom_end _ _ _ (by omega)
    | succ k ih =>
      intro j hj
      have hl : j < l.length := by omega
      have hx := hr l[j] (List.getElem_mem hl)
      rw [kidsFrom_step _ _ _ hl, idxOf_nodup l hn j hl, ih (j + 1) (by omega)]
      rw [show decide (1 ≤ l[j]) = true from decide_eq_true hx.1, show decide (l[j] < 256) = true from decide_eq_true hx.2]
      simp
  exact this l.length 0 (by omega)
theorem insKids_perm (K : List Int) (i : Nat) (id : Int) : (insKids K i id).Perm (id :: K) := by
  unfold insKids
  have h := List.perm_middle (a := id) (l₁ := K.take (i + 1)) (l₂ := K.drop (i + 1))
  rw [List.take_append_drop] at h
  exact h
theorem insKids_lo (K : List Int) (i j : Nat) (id : Int) (hj : j ≤ i) (hi : i < K.length) (h : j < (insKids K i id).length) : (insKids K i id)[j] = K[j] := by
  simp only [insKids]
  rw [List.getElem_append_left (by simp; omega)]
  simp
theorem insKids_at (K : List Int) (i : Nat) (id : Int) (hi : i < K.length) (h : i + 1 < (insKids K i id).length) : (insKids K i id)[i + 1] = id := by
  simp only [insKids]
  rw [List.getElem_append_right (by simp; omega)]
  simp [show min (i + 1) K.length = i + 1 from by omega]
theorem insKids_hi (K : List Int) (i c : Nat) (id : Int) (hc : i < c) (hl : c < K.length) (h : c + 1 < (insKids K i id).length) : (insKids K i id)[c + 1] = K[c] := by
  simp only [insKids]
  rw [List.getElem_append_right (by simp; omega)]
  have e : c + 1 - (K.take (i + 1)).length = (c - i - 1) + 1 := by simp; omega
  simp only [e, List.singleton_append, List.getElem_cons_succ, List.getElem_drop]
  congr 1
  omega
theorem kidsL_nodup (v : Int) (n : Nat) : (kidsL v n).Nodup := by
  rw [List.nodup_iff_pairwise_ne, List.pairwise_iff_getElem]
  intro i j hi hj hij
  rw [kidsL_get, kidsL_get]
  omega
theorem kidsL_mem (v : Int) (n : Nat) (x : Int) (h : x ∈ kidsL v n) : 1 ≤ x ∧ x < 200 + 7 * (n : Int) := by
  obtain ⟨i, hi, rfl⟩ := List.mem_iff_getElem.1 h
  rw [kidsL_get]
  rw [kidsL_len] at hi
  have h1 := Int.emod_nonneg v (show (200 : Int) ≠ 0 by omega)
  have h2 := Int.emod_lt_of_pos v (show (0 : Int) < 200 by omega)
  omega
theorem kidBy_split (y : Key) (P : List Key) (i : Nat) (x : Key) : kidBy keyCmp y (insCuts P i x) = kidBy keyCmp y P + (if x.rank ≤ y.rank then 1 else 0) := by
  have h := sgn_le x.rank y.rank
  have e : kidBy keyCmp y P = kidBy keyCmp y (P.take i) + kidBy keyCmp y (P.drop i) := by
    unfold kidBy
    rw [← List.countP_append, List.take_append_drop]
  rw [e]
  unfold insCuts kidBy
  rw [List.countP_append, List.singleton_append, List.countP_cons]
  simp only [keyCmp_rank, decide_eq_true_eq, h]
  omega
theorem insCuts_rise {P : List Key} (h : Rise P) {x : Key} (hx : x.ok = true) (hn : ∀ (h0 : 0 < kidBy keyCmp x P) (h1 : kidBy keyCmp x P - 1 < P.length), P[kidBy keyCmp x P - 1] ≠ x) : Rise (insCuts P (kidBy keyCmp x P) x) := by
  have hlt : ∀ i (hi : i < P.length), i < kidBy keyCmp x P → P[i].rank < x.rank := fun i hi c => by
    have h1 := kidBy_lt h hi c
    have hk := kidBy_le keyCmp x P
    have h2 : kidBy keyCmp x P - 1 < P.length := by omega
    have h3 := kidBy_lt h (x := x) h2 (by omega)
    have h4 := hn (by omega) h2
    have h5 : P[kidBy keyCmp x P - 1].rank ≠ x.rank := fun e => h4 ((rank_inj (h.ok h2) hx).1 e)
    by_cases e : i = kidBy keyCmp x P - 1
    · subst e; omega
    · have := h.at hi h2 (by omega)
      omega
  have hge : ∀ i (hi : i < P.length), kidBy keyCmp x P ≤ i → x.rank < P[i].rank := fun i hi c => kidBy_ge h hi c
  unfold insCuts
  refine ⟨fun k hk => ?_, ?_⟩
  · simp only [List.mem_append, List.mem_cons, List.not_mem_nil, or_false] at hk
    rcases hk with hk | rfl | hk
    · exact h.1 k (List.mem_of_mem_take hk)
    · exact hx
    · exact h.1 k (List.mem_of_mem_drop hk)
  · rw [List.pairwise_append]
    refine ⟨h.2.sublist (List.take_sublist _ _), ?_, ?_⟩
    · rw [List.singleton_append, List.pairwise_cons]
      refine ⟨fun z hz => ?_, h.2.sublist (List.drop_sublist _ _)⟩
      obtain ⟨i, hi, rfl⟩ := List.mem_iff_getElem.1 hz
      rw [List.getElem_drop]
      exact hge _ (by simp at hi; omega) (by omega)
    · intro a ha b hb
      obtain ⟨i, hi, rfl⟩ := List.mem_iff_getElem.1 ha
      rw [List.length_take] at hi
      rw [List.getElem_take]
      have h1 := hlt i (by omega) (by omega)
      rcases List.mem_append.1 hb with hb | hb
      · rw [List.mem_singleton] at hb; subst hb; exact h1
      · obtain ⟨j, hj, rfl⟩ := List.mem_iff_getElem.1 hb
        rw [List.getElem_drop]
        have := hge (kidBy keyCmp x P + j) (by simp at hj; omega) (by omega)
        omega
end Go.Proofs.YtonjbnoeoececaaGreat

namespace Go.Proofs.YtonjbnoeoececaaGreat
open Go Go.RowKit
set_option linter.unusedVariables false
set_option linter.unusedSimpArgs false
set_option maxRecDepth 100000

/-! ### parts of a buffer -/
def kLo (cuts : List Key) (x : Key) : Nat → Bool
  | 0 => true
  | i + 1 => match cuts[i]? with
    | some k => decide (k.rank ≤ x.rank)
    | none => true
def kHi (cuts : List Key) (x : Key) (n : Nat) : Bool := match cuts[n]? with
  | some k => decide (x.rank < k.rank)
  | none => true
theorem keepLo_k (cuts : List Key) (m : Msg) (n : Nat) : keepLo cuts m n = kLo cuts m.key n := by cases n <;> rfl
theorem keepHi_k (cuts : List Key) (m : Msg) (n : Nat) : keepHi cuts m n = kHi cuts m.key n := rfl
theorem get_sub {l l' : List Msg} (h : BSrt l) (s : List.Sublist l' l) {x : Key} {m : Msg} (hg : bfGet x l' = some m) : bfGet x l = some m := by
  have h1 := (bfGet_iff (h.sublist s) x m).1 hg
  exact (bfGet_iff h x m).2 ⟨s.subset h1.1, h1.2⟩
theorem get_part {l : List Msg} (h : BSrt l) (cuts : List Key) (n : Nat) {x : Key} (hl : kLo cuts x n = true) (hh : kHi cuts x n = true) : bfGet x (bfPart l cuts n) = bfGet x l := by
  have hs : BSrt (bfPart l cuts n) := by rw [← part_filter h]; exact h.sublist List.filter_sublist
  apply Option.ext
  intro m
  rw [bfGet_iff hs, bfGet_iff h, ← part_filter h, List.mem_filter, keepLo_k, keepHi_k]
  constructor
  · rintro ⟨⟨h1, _⟩, h2⟩; exact ⟨h1, h2⟩
  · rintro ⟨h1, h2⟩; rw [h2, hl, hh]; exact ⟨⟨h1, rfl⟩, rfl⟩
/-- in which kid's range a key lies -/
theorem kid_lo {cuts : List Key} (hr : Rise cuts) {x : Key} {j : Nat} (h : kidBy keyCmp x cuts = j) : kLo cuts x j = true ∧ kHi cuts x j = true := by
  have hle := kidBy_le keyCmp x cuts
  constructor
  · cases j with
    | zero => rfl
    | succ i =>
      have hi : i < cuts.length := by omega
      show (match cuts[i]? with | some k => decide (k.rank ≤ x.rank) | none => true) = true
      rw [List.getElem?_eq_getElem hi]
      exact decide_eq_true (kidBy_lt hr hi (by omega))
  · unfold kHi
    by_cases hj : j < cuts.length
    · rw [List.getElem?_eq_getElem hj]
      exact decide_eq_true (kidBy_ge hr hj (by omega))
    · rw [List.getElem?_eq_none (by omega)]
theorem kid_of {cuts : List Key} (hr : Rise cuts) {x : Key} {j : Nat} (hj : j ≤ cuts.length) (hl : kLo cuts x j = true) (hh : kHi cuts x j = true) : kidBy keyCmp x cuts = j := by
  have hle := kidBy_le keyCmp x cuts
  rcases Nat.lt_trichotomy (kidBy keyCmp x cuts) j with c | c | c
  · exfalso
    cases j with
    | zero => omega
    | succ i =>
      have hi : i < cuts.length := by omega
      replace hl : (match cuts[i]? with | some k => decide (k.rank ≤ x.rank) | none => true) = true := hl
      rw [List.getElem?_eq_getElem hi] at hl
      have h1 : cuts[i].rank ≤ x.rank := of_decide_eq_true hl
      have h2 := kidBy_ge hr (x := x) hi (by omega)
      omega
  · exact c
  · exfalso
    have hj' : j < cuts.length := by omega
    unfold kHi at hh
    rw [List.getElem?_eq_getElem hj'] at hh
    have h1 : x.rank < cuts[j].rank := of_decide_eq_true hh
    have h2 := kidBy_lt hr (x := x) hj' c
    omega
theorem part_kid {cuts : List Key} (hr : Rise cuts) {l : List Msg} (h : BSrt l) {j : Nat} (hj : j ≤ cuts.length) {m : Msg} (hm : m ∈ bfPart l cuts j) : kidBy keyCmp m.key cuts = j := by
  rw [← part_filter h, List.mem_filter, Bool.and_eq_true, keepLo_k, keepHi_k] at hm
  exact kid_of hr hj hm.2.1 hm.2.2
theorem partI_nat (l : List Msg) (cuts : List Key) (j : Nat) (hj : j ≤ cuts.length) : partI l cuts (j : Int) = bfPart l cuts j := by
  unfold partI
  rw [if_pos ⟨by omega, by omega⟩]
  rfl
theorem bSum_sub {l l' : List Msg} (s : List.Sublist l' l) : bSum l' ≤ bSum l := by
  induction s with
  | slnil => exact Int.le_refl _
  | cons a s ih =>
    have h1 := (Msg.size_le a).1
    simp only [bSum, List.map_cons, List.sum_cons] at ih ⊢
    omega
  | cons_cons a s ih =>
    simp only [bSum, List.map_cons, List.sum_cons] at ih ⊢
    omega
/-! ### what a leaf weighs behind messages -/
theorem eSum_sub {l l' : List Ent} (hb : EBd l) (s : List.Sublist l' l) : eSum l' ≤ eSum l := by
  induction s with
  | slnil => exact Int.le_refl _
  | cons a s ih =>
    have h1 := hb a List.mem_cons_self
    have h2 := ih (fun e he => hb e (List.mem_cons_of_mem _ he))
    simp only [eSum, List.map_cons, List.sum_cons] at h2 ⊢
    unfold Ent.size
    unfold Ent.size at h2
    omega
  | cons_cons a s ih =>
    have h2 := ih (fun e he => hb e (List.mem_cons_of_mem _ he))
    simp only [eSum, List.map_cons, List.sum_cons] at h2 ⊢
    omega
theorem filter_two {k : Key} : ∀ {l : List Ent}, EBd l → eSum (l.filter (fun e => decide (e.key.rank < k.rank))) + eSum (l.filter (fun e => decide (k.rank < e.key.rank))) ≤ eSum l
  | [], _ => Int.le_refl _
  | a :: l, hb => by
    have ih := filter_two (k := k) (l := l) (fun e he => hb e (List.mem_cons_of_mem _ he))
    have h1 := hb a List.mem_cons_self
    have h2 : 0 ≤ a.size := by unfold Ent.size; omega
    have hs : ∀ l : List Ent, eSum (a :: l) = a.size + eSum l := fun l => by simp [eSum]
    rw [hs]
    rw [List.filter_cons, List.filter_cons]
    by_cases c1 : a.key.rank < k.rank
    · rw [if_pos (decide_eq_true c1), if_neg (by rw [decide_eq_true_eq]; omega), hs]; omega
    · rw [if_neg (by rw [decide_eq_true_eq]; omega)]
      by_cases c2 : k.rank < a.key.rank
      · rw [if_pos (decide_eq_true c2), hs]; omega
      · rw [if_neg (by rw [decide_eq_true_eq]; omega)]; omega
theorem fromN_eight (n : BitVec 64) : (fromN n).n = 8 := by
  unfold fromN mkVl
  show ((leBytes n 8).length : Int) = 8
  rw [leBytes_length]; rfl
theorem put_sum {l : List Ent} (h : Lf l) {m : Msg} (hm : m.ok = true) : eSum (lfPut l m) ≤ eSum l + m.size := by
  have h1 := filter_two (k := m.key) h.ok.bd
  have hsp := Msg.spec hm
  have hk := Key.n_le hsp.2.2.1
  have hn : eSum (newE m.key (ap m (lfGet m.key l))) ≤ m.size := by
    have hs : ∀ v : Vl, eSum [⟨m.key, v⟩] = 2 + m.key.n + v.n := fun v => by simp [eSum, Ent.size]
    unfold ap Msg.size
    rw [if_pos hm]
    by_cases k1 : m.kind = 1
    · rw [if_pos k1, if_pos k1]
      show eSum [⟨m.key, m.val⟩] ≤ _
      rw [hs]; omega
    · rw [if_neg k1, if_neg k1]
      by_cases k2 : m.kind = 2
      · rw [if_pos k2, if_neg (by omega)]
        show (0 : Int) ≤ _
        omega
      · rw [if_neg k2, if_pos (by have := hsp.1; have := hsp.2.1; omega)]
        split
        · show eSum [⟨m.key, vplus _ _⟩] ≤ _
          rw [hs]
          have := fromN_eight (numOf ‹Vl› + m.add)
          unfold vplus
          omega
        · show eSum [⟨m.key, fromN _⟩] ≤ _
          rw [hs]
          have := fromN_eight m.add
          omega
  unfold lfPut lfSet
  rw [eSum_append, eSum_append]
  omega
theorem all_sum : ∀ {ms : List Msg} {l : List Ent}, Lf l → (∀ m ∈ ms, m.ok = true) → eSum (lfAll l ms) ≤ eSum l + bSum ms
  | [], l, _, _ => by simp [lfAll, bSum]
  | m :: ms, l, h, hm => by
    have h1 := put_sum h (hm m List.mem_cons_self)
    have h2 := all_sum (ms := ms) (lf_put h (hm m List.mem_cons_self)) (fun y hy => hm y (List.mem_cons_of_mem _ hy))
    have h3 : bSum (m :: ms) = m.size + bSum ms := by simp [bSum]
    have h4 : lfAll l (m :: ms) = lfAll (lfPut l m) ms := rfl
    rw [h4, h3]; omega
theorem put_keys {l : List Ent} {m : Msg} {e : Ent} (he : e ∈ lfPut l m) : e ∈ l ∨ e.key = m.key := by
  unfold lfPut at he
  rcases mem_set.1 he with h | h
  · exact .inl h.1
  · exact .inr h.1
theorem all_keys : ∀ {ms : List Msg} {l : List Ent} {e : Ent}, e ∈ lfAll l ms → e ∈ l ∨ ∃ m ∈ ms, e.key = m.key
  | [], l, e, h => .inl h
  | m :: ms, l, e, h => by
    have h' : e ∈ lfAll (lfPut l m) ms := h
    rcases all_keys h' with h1 | ⟨y, h1, h2⟩
    · rcases put_keys h1 with h3 | h3
      · exact .inl h3
      · exact .inr ⟨m, List.mem_cons_self, h3⟩
    · exact .inr ⟨y, List.mem_cons_of_mem _ h1, h2⟩
/-! ### values, folded up -/
def valN (x : Key) : Option Vl → List Nd → Option Vl
  | o, [] => o
  | o, u :: l => valN x (apO (bfGet x u.ms) o) l
theorem keep_value {l : List Msg} (hl : Bf l) {g : List Msg} (hg : List.Sublist g l) {x : Key} (hx : x.ok = true) (o : Option Vl) : apO (bfGet x (bfLess l g)) (runV x g o) = apO (bfGet x l) o := by
  rw [runV_bf o (hl.srt.sublist hg), less_get hl g x]
  cases c : bfGet x g with
  | none => rw [if_neg (by simp)]; rfl
  | some m =>
    rw [if_pos (show (some m).isSome = true from rfl), get_sub hl.srt hg c]; rfl
theorem less_lt {l g : List Msg} (hl : BSrt l) (hg : List.Sublist g l) (h0 : g.length ≠ 0) : (bfLess l g).length < l.length := by
  obtain ⟨m, hm⟩ : ∃ m, m ∈ g := by
    cases g with
    | nil => exact absurd rfl h0
    | cons m g => exact ⟨m, List.mem_cons_self⟩
  have hgm : bfGet m.key g = some m := (bfGet_iff (hl.sublist hg) m.key m).2 ⟨hm, rfl⟩
  unfold bfLess
  apply List.length_filter_lt_length_iff_exists.2
  exact ⟨m, hg.subset hm, by unfold goneP; rw [hgm]; simp⟩
/-! ### what fits -/
theorem fan_ok_of {K : List Int} {P : List Key} (h2 : 2 ≤ K.length) (h4 : K.length ≤ 4) (hl : P.length + 1 = K.length) (hn : K.Nodup) (hK : ∀ k ∈ K, 1 ≤ k ∧ k < 256) (hr : Rise P) : fanOkBy keyCmp K P = true := by
  rw [fan_on _ _ keyCmp h2 h4 hl (kidsFrom_nodup K hn hK)]
  exact rise_ok hr
theorem inner_fits {K : List Int} {P : List Key} {M : List Msg} (hf : fanOkBy keyCmp K P = true) (hb : Bf M) (hs : bSum M ≤ 205) : nodeFits ⟨false, [], K, P, M⟩ = true := by
  have hok : nodeOk keyCmp ⟨false, [], K, P, M⟩ = true := by
    unfold nodeOk innerOk
    rw [if_neg (by simp)]
    dsimp only
    rw [hf, msgsOkB_true hb.msgs]; rfl
  unfold nodeFits ndBytes
  rw [hok, if_neg (by simp), if_neg (by simp), Bool.true_and, decide_eq_true_eq]
  exact hs
theorem Rise.sub {l l' : List Key} (h : Rise l) (s : List.Sublist l' l) : Rise l' := ⟨fun k hk => h.1 k (s.subset hk), h.2.sublist s⟩
theorem part_bf {l : List Msg} (h : Bf l) (cuts : List Key) (n : Nat) : Bf (bfPart l cuts n) := by
  rw [← part_filter h.srt]; exact h.sub List.filter_sublist
theorem part_sum {l : List Msg} (h : BSrt l) (cuts : List Key) (n : Nat) : bSum (bfPart l cuts n) ≤ bSum l := by
  rw [← part_filter h]; exact bSum_sub List.filter_sublist
/-- a kid more, of a key of the kid's own range that is no pivot -/
theorem more_ok {K : List Int} {P : List Key} {x : Key} {id : Int} (hr : Rise P) (hx : x.ok = true) (hl : P.length + 1 = K.length) (h2 : 2 ≤ K.length) (h4 : K.length < 4) (hn : K.Nodup) (hK : ∀ k ∈ K, 1 ≤ k ∧ k < 240) (hid : 240 ≤ id ∧ id < 256)
    (hne : ∀ (h0 : 0 < kidBy keyCmp x P) (h1 : kidBy keyCmp x P - 1 < P.length), P[kidBy keyCmp x P - 1] ≠ x) :
    fanOkBy keyCmp (insKids K (kidBy keyCmp x P) id) (insCuts P (kidBy keyCmp x P) x) = true := by
  have hp := insKids_perm K (kidBy keyCmp x P) id
  have hlen : (insKids K (kidBy keyCmp x P) id).length = K.length + 1 := by rw [hp.length_eq]; rfl
  have hbl : (insCuts P (kidBy keyCmp x P) x).length = P.length + 1 := by simp [insCuts]; have := kidBy_le keyCmp x P; omega
  refine fan_ok_of (by omega) (by omega) (by omega) ?_ (fun k hk => ?_) (insCuts_rise hr hx hne)
  · rw [hp.nodup_iff, List.nodup_cons]
    exact ⟨fun hm => by have := hK _ hm; omega, hn⟩
  · rcases List.mem_cons.1 (hp.mem_iff.1 hk) with rfl | hm
    · omega
    · have := hK _ hm; omega
theorem fanIns_at {K : List Int} {P : List Key} {j : Nat} (hl : P.length + 1 = K.length) (hj : j < K.length) (x : Key) (id : Int) : fanIns K P (j : Int) x id = (insKids K j id, insCuts P j x) := by
  unfold fanIns
  rw [if_pos ⟨by omega, by omega⟩, show ((j : Nat) : Int).toNat = j from rfl, Nat.min_eq_left (by omega)]
/-- where a key goes behind that -/
theorem more_kid {K : List Int} {P : List Key} {x y : Key} {id : Int} {j : Nat} (hl : P.length + 1 = K.length) (hjx : kidBy keyCmp x P = j) (hjy : kidBy keyCmp y P = j) (hK : ∀ k ∈ K, k ≠ id) :
    ∃ c, kidBy keyCmp y (insCuts P j x) = c ∧ c < (insKids K j id).length ∧ (insKids K j id).length = K.length + 1 ∧ ∀ h : c < (insKids K j id).length, ((insKids K j id)[c] = id ↔ x.rank ≤ y.rank) := by
  have hle := kidBy_le keyCmp x P
  have hlen : (insKids K j id).length = K.length + 1 := by rw [(insKids_perm K j id).length_eq]; rfl
  have hs := kidBy_split y P j x
  rw [hjy] at hs
  by_cases c : x.rank ≤ y.rank
  · rw [if_pos c] at hs
    refine ⟨j + 1, hs, by omega, hlen, fun h => ⟨fun _ => c, fun _ => insKids_at K j id (by omega) h⟩⟩
  · rw [if_neg c] at hs
    refine ⟨j, hs, by omega, hlen, fun h => ⟨fun e => ?_, fun k => absurd k c⟩⟩
    rw [insKids_lo K j j id (Nat.le_refl _) (by omega) h] at e
    exact absurd e (hK _ (List.getElem_mem _))
/-! ### a leaf in two -/
theorem leaf_two {es : List Ent} (h : Lf es) (h2 : 2 ≤ es.length) (hs : eSum es ≤ 344) : ∃ A B X, halvL es = (leafOf A, leafOf B, X, true) ∧ Lf A ∧ Lf B ∧ eSum A ≤ 248 ∧ eSum B ≤ 248 ∧ X.ok = true ∧ (∃ a ∈ es, a.key.rank < X.rank) ∧ (∃ b ∈ es, b.key = X) ∧ A.length ≤ es.length ∧ B.length ≤ es.length ∧
    ∀ x, x.ok = true → lfGet x es = if X.rank ≤ x.rank then lfGet x B else lfGet x A := by
  obtain ⟨A, B, pk, e1, e2, e3, e4, e5, e6, ⟨e7, e8⟩, ⟨e9, ea⟩, _, _, eb, ec, _⟩ := split_facts h h2 hs
  have hA : Lf A := by rw [← e1]; exact ⟨fun e he => h.ok e (List.mem_of_mem_take he), h.srt.sublist (List.take_sublist _ _)⟩
  have hB : Lf B := by rw [← e2]; exact ⟨fun e he => h.ok e (List.mem_of_mem_drop he), h.srt.sublist (List.drop_sublist _ _)⟩
  have hsum : eSum A + eSum B = eSum es := by rw [← eSum_append, e4]
  have hmA : A[A.length - 1] ∈ es := by rw [← e4]; exact List.mem_append_left _ (List.getElem_mem _)
  have hmB : B[0] ∈ es := by rw [← e4]; exact List.mem_append_right _ (List.getElem_mem _)
  have hX : pk.ok = true := by rw [← e8]; exact (h.ok _ hmB).1
  have hlt : A[A.length - 1].key.rank < pk.rank := by
    rw [refCmp_rank (h.ok _ hmA).1 hX, sgn_neg] at ea; exact ea
  have hAlt : ∀ a ∈ A, a.key.rank < pk.rank := fun a ha => by
    obtain ⟨i, hi, rfl⟩ := List.getElem_of_mem ha
    by_cases c : i = A.length - 1
    · subst c; exact hlt
    · have := hA.srt.lt hi e9 (by omega); omega
  have hBge : ∀ b ∈ B, pk.rank ≤ b.key.rank := fun b hb => by
    obtain ⟨i, hi, rfl⟩ := List.getElem_of_mem hb
    by_cases c : i = 0
    · subst c; rw [e8]; exact Nat.le_refl _
    · have := hB.srt.lt e7 hi (by omega); rw [e8] at this; omega
  refine ⟨A, B, pk, ?_, hA, hB, eb, by omega, hX, ⟨_, hmA, hlt⟩, ⟨_, hmB, e8⟩, by omega, by omega, fun x hx => ?_⟩
  · unfold halvL
    rw [if_pos h2, e1, e2, e3]
  · apply Option.ext
    intro v
    rw [lfGet_iff h.srt, ← e4, List.mem_append]
    by_cases c : pk.rank ≤ x.rank
    · rw [if_pos c, lfGet_iff hB.srt]
      exact ⟨fun k => k.resolve_left fun ka => by have h1 : x.rank < pk.rank := hAlt _ ka; omega, .inr⟩
    · rw [if_neg c, lfGet_iff hA.srt]
      exact ⟨fun k => k.resolve_right fun kb => by have h1 : pk.rank ≤ x.rank := hBge _ kb; omega, .inl⟩
/-! ### an inner node in two -/
theorem three_two (P : List Key) (h : P.length = 3) : ∃ a b c, P = [a, b, c] := by
  match P, h with
  | [a, b, c], _ => exact ⟨a, b, c, rfl⟩
theorem four_two (K : List Int) (h : K.length = 4) : ∃ a b c d, K = [a, b, c, d] := by
  match K, h with
  | [a, b, c, d], _ => exact ⟨a, b, c, d, rfl⟩
theorem inner_two {n : Nd} (hb : Bf n.ms) (hr : Rise n.ps) (hn : n.ks.Nodup) (hK : ∀ k ∈ n.ks, 1 ≤ k ∧ k < 256) (hs : bSum n.ms ≤ 205) (hq : (halvI n).2.2.2 = true) : ∃ x y X, halvI n = (x, y, X, true) ∧ nodeFits x = true ∧ nodeFits y = true ∧ x.ks.length = 2 ∧ y.ks.length = 2 ∧ X.ok = true ∧ X ∈ n.ps ∧ (∃ a ∈ n.ps, a.rank < X.rank) ∧ Bf x.ms ∧ Bf y.ms ∧ x.ms.length ≤ n.ms.length ∧ y.ms.length ≤ n.ms.length ∧
    ∀ z, bfGet z n.ms = if X.rank ≤ z.rank then bfGet z y.ms else bfGet z x.ms := by
  have ha : halvI n = if (fanHal n.ks n.ps).2.2.2.2.2 = true then (⟨false, [], (fanHal n.ks n.ps).1, (fanHal n.ks n.ps).2.1, bfPart n.ms [(fanHal n.ks n.ps).2.2.1] 0⟩, ⟨false, [], (fanHal n.ks n.ps).2.2.2.1, (fanHal n.ks n.ps).2.2.2.2.1, bfPart n.ms [(fanHal n.ks n.ps).2.2.1] 1⟩, (fanHal n.ks n.ps).2.2.1, true) else (ndZ, ndZ, Key.zero, false) := rfl
  by_cases c : n.ks.length = 4 ∧ n.ps.length = 3
  · have e : fanHal n.ks n.ps = (n.ks.take 2, n.ps.take 1, n.ps.getD 1 Key.zero, n.ks.drop 2, n.ps.drop 2, true) := by unfold fanHal; rw [if_pos c]
    obtain ⟨k1, k2, k3, k4, hk⟩ := four_two n.ks c.1
    obtain ⟨p1, p2, p3, hp⟩ := three_two n.ps c.2
    rw [ha, e, hk, hp]
    rw [if_pos rfl]
    rw [hk] at hn hK
    rw [hp] at hr
    have hp2 : p2.ok = true := hr.1 p2 (by simp)
    have h12 : p1.rank < p2.rank := by have := hr.2; simp at this; exact this.1.1
    refine ⟨_, _, p2, rfl, inner_fits (fan_ok_of (by simp) (by simp) (by simp) (hn.sublist (by simp)) (fun k hk => hK k (by simp at hk ⊢; rcases hk with h | h <;> simp [h])) (hr.sub (by simp))) (part_bf hb _ _) (Int.le_trans (part_sum hb.srt _ _) hs),
      inner_fits (fan_ok_of (by simp) (by simp) (by simp) (hn.sublist (by simp)) (fun k hk => hK k (by simp at hk ⊢; rcases hk with h | h <;> simp [h])) (hr.sub (by simp))) (part_bf hb _ _) (Int.le_trans (part_sum hb.srt _ _) hs), rfl, rfl, hp2, by simp, ⟨p1, by simp, h12⟩, part_bf hb _ _, part_bf hb _ _, part_len _ _ _, part_len _ _ _, fun z => ?_⟩
    by_cases c : p2.rank ≤ z.rank
    · rw [if_pos c]
      exact (get_part hb.srt _ _ (show kLo [p2] z 1 = true from decide_eq_true c) rfl).symm
    · rw [if_neg c]
      exact (get_part hb.srt _ _ rfl (show kHi [p2] z 0 = true from decide_eq_true (by omega))).symm
  · have e : fanHal n.ks n.ps = ([], [], Key.zero, [], [], false) := by unfold fanHal; rw [if_neg c]
    rw [ha, e, if_neg (by simp)] at hq
    cases hq
end Go.Proofs.YtonjbnoeoececaaGreat

namespace Go.Proofs.YtonjbnoeoececaaGreat
open Go Go.RowKit
set_option linter.unusedVariables false
set_option linter.unusedSimpArgs false
set_option maxRecDepth 100000

theorem innerN_gd (p : List Int) (v : Int) (l : List Int) : (innerN p v l).Gd := by
  have h1 := piv3 p
  have h2 := msgList_len l 205
  have h3 := kidsL_len v ((pivK (16 :: p) 3).length + 1)
  exact ⟨lf_nil, innerN_bf p v l, innerN_rise p v l, Nat.zero_le _, by show (kidsL v _).length ≤ _; omega, by show (pivK _ _).length ≤ _; omega, by show (msgList _ _).length ≤ _; omega⟩
theorem leafN_gd (l : List Int) : (leafN l).Gd := leafOf_gd (entList_lf l 248) (by have := entList_len l 248; omega)
theorem innerN_lens (p : List Int) (v : Int) (l : List Int) : (innerN p v l).es.length = 0 ∧ (innerN p v l).ms.length ≤ 60 ∧ (innerN p v l).ks.length ≤ (innerN p v l).ps.length + 1 := ⟨rfl, msgList_len l 205, Nat.le_of_eq (innerN_kids p v l)⟩
theorem leafN_lens (l : List Int) : (leafN l).es.length ≤ 80 ∧ (leafN l).ms.length = 0 := ⟨entList_len l 248, rfl⟩
theorem ins_fits {n : Nd} (h : nodeFits n = true) (m : Msg) : nodeFits (insN n m).1 = true := by
  unfold insN
  split
  · assumption
  · exact h
theorem ins_sm {n : Nd} (h : n.Gd) (m : Msg) : (insN n m).1.Sm := by
  unfold insN
  split
  · exact take_sm h [m] (by simp)
  · exact h.Sm
theorem push_sm {p c : Nd} (hp : p.Gd) (hc : c.Gd) (i : Int) : (pushN p c i).1.Sm ∧ (pushN p c i).2.1.Sm := by
  have h1 := hp.ms
  have h2 := goes_len p i
  have h3 := less_len' p.ms (goesN p i)
  unfold pushN
  split
  · split
    · exact ⟨hp.Sm, hc.Sm⟩
    · exact ⟨⟨hp.Sm.es, hp.Sm.ks, hp.Sm.ps, by show (bfLess _ _).length ≤ _; omega⟩, take_sm hc _ (by omega)⟩
  · exact ⟨hp.Sm, hc.Sm⟩
theorem push_leaf {p : Nd} (h : p.leaf = true) (c : Nd) (i : Int) : pushN p c i = (p, c, false) := by
  unfold pushN
  rw [if_neg (fun k => by have := k.1; rw [h] at this; cases this)]
theorem fanIns_lens (ks : List Int) (cs : List Key) (i : Int) (x : Key) (id : Int) : (fanIns ks cs i x id).1.length ≤ ks.length + 1 ∧ (fanIns ks cs i x id).2.length ≤ cs.length + 1 := by
  unfold fanIns
  split <;> simp only [insKids, insCuts, List.length_append, List.length_take, List.length_drop, List.length_singleton]
  all_goals first | omega | (split <;> simp only [List.length_append, List.length_take, List.length_drop, List.length_singleton] <;> omega)
theorem halvL_sm {es : List Ent} (h : es.length ≤ 100000000) : (halvL es).1.Sm ∧ (halvL es).2.1.Sm := by
  unfold halvL
  split
  · exact ⟨⟨by show (es.take _).length ≤ _; rw [List.length_take]; omega, Nat.zero_le _, Nat.zero_le _, Nat.zero_le _⟩, ⟨by show (es.drop _).length ≤ _; rw [List.length_drop]; omega, Nat.zero_le _, Nat.zero_le _, Nat.zero_le _⟩⟩
  · exact ⟨ndZ_gd.Sm, ndZ_gd.Sm⟩
theorem bfPart_len (l : List Msg) (cuts : List Key) (n : Nat) : (bfPart l cuts n).length ≤ l.length := by
  unfold bfPart
  rw [List.length_drop, List.length_take]; omega
theorem fanHal_lens (ks : List Int) (cs : List Key) : (fanHal ks cs).1.length ≤ ks.length ∧ (fanHal ks cs).2.1.length ≤ cs.length ∧ (fanHal ks cs).2.2.2.1.length ≤ ks.length ∧ (fanHal ks cs).2.2.2.2.1.length ≤ cs.length := by
  unfold fanHal
  split
  · simp only [List.length_take, List.length_drop]; omega
  · exact ⟨Nat.zero_le _, Nat.zero_le _, Nat.zero_le _, Nat.zero_le _⟩
theorem halvI_sm {n : Nd} (h : n.Gd) : (halvI n).1.Sm ∧ (halvI n).2.1.Sm := by
  have h1 := fanHal_lens n.ks n.ps
  have h2 := h.ks
  have h3 := h.ps
  have h4 := h.ms
  have ha : halvI n = if (fanHal n.ks n.ps).2.2.2.2.2 = true then (⟨false, [], (fanHal n.ks n.ps).1, (fanHal n.ks n.ps).2.1, bfPart n.ms [(fanHal n.ks n.ps).2.2.1] 0⟩, ⟨false, [], (fanHal n.ks n.ps).2.2.2.1, (fanHal n.ks n.ps).2.2.2.2.1, bfPart n.ms [(fanHal n.ks n.ps).2.2.1] 1⟩, (fanHal n.ks n.ps).2.2.1, true) else (ndZ, ndZ, Key.zero, false) := rfl
  have h5 := bfPart_len n.ms [(fanHal n.ks n.ps).2.2.1] 0
  have h6 := bfPart_len n.ms [(fanHal n.ks n.ps).2.2.1] 1
  rw [ha]
  split
  · exact ⟨⟨Nat.zero_le _, by dsimp only; omega, by dsimp only; omega, by dsimp only; omega⟩, ⟨Nat.zero_le _, by dsimp only; omega, by dsimp only; omega, by dsimp only; omega⟩⟩
  · exact ⟨ndZ_gd.Sm, ndZ_gd.Sm⟩
theorem withKid_sm {p : Nd} (h1 : p.es.length ≤ 100000000) (h2 : p.ks.length ≤ 1000000) (h3 : p.ps.length ≤ 1000000) (h4 : p.ms.length ≤ 100000000) (i : Int) (x : Key) (id : Int) : (withKid p i x id).Sm := by
  have := fanIns_lens p.ks p.ps i x id
  exact ⟨h1, by show (fanIns _ _ _ _ _).1.length ≤ _; omega, by show (fanIns _ _ _ _ _).2.length ≤ _; omega, h4⟩
theorem splitL_sm {p c : Nd} (hp : p.Gd) (hc : c.Gd) (i id : Int) : (splitL p c i id).1.Sm ∧ (splitL p c i id).2.1.Sm ∧ (splitL p c i id).2.2.1.Sm := by
  have g1 := hp.es; have g2 := hp.ks; have g3 := hp.ps; have g4 := hp.ms
  have h2 := goes_len p i
  have h3 := less_len' p.ms (goesN p i)
  by_cases c0 : partsOk p i id ∧ c.leaf = true
  · rw [splitL_yes c0]
    split
    · have := halvL_sm (take_sm hc (goesN p i) (by omega)).es
      exact ⟨withKid_sm (by show p.es.length ≤ _; omega) (by show p.ks.length ≤ _; omega) (by show p.ps.length ≤ _; omega) (by show (bfLess _ _).length ≤ _; omega) _ _ _, this.1, this.2⟩
    · exact ⟨hp.Sm, hc.Sm, ndZ_gd.Sm⟩
  · rw [splitL_no c0]
    exact ⟨hp.Sm, hc.Sm, ndZ_gd.Sm⟩
theorem splitI_sm {p c : Nd} (hp : p.Gd) (hc : c.Gd) (i id : Int) : (splitI p c i id).1.Sm ∧ (splitI p c i id).2.1.Sm ∧ (splitI p c i id).2.2.1.Sm := by
  have g1 := hp.es; have g2 := hp.ks; have g3 := hp.ps; have g4 := hp.ms
  by_cases c0 : partsOk p i id ∧ c.leaf = false
  · rw [splitI_yes c0]
    split
    · have := halvI_sm hc
      exact ⟨withKid_sm (by omega) (by omega) (by omega) (by omega) _ _ _, this.1, this.2⟩
    · exact ⟨hp.Sm, hc.Sm, ndZ_gd.Sm⟩
  · rw [splitI_no c0]
    exact ⟨hp.Sm, hc.Sm, ndZ_gd.Sm⟩
theorem splitR_sm {r : Nd} (hr : r.Gd) (a b : Int) : (splitR r a b).1.Sm ∧ (splitR r a b).2.1.Sm ∧ (splitR r a b).2.2.1.Sm := by
  by_cases c0 : a ≠ b ∧ idOk a ∧ idOk b
  · rw [splitR_yes c0]
    have : (halvN r).1.Sm ∧ (halvN r).2.1.Sm := by
      unfold halvN
      split
      · exact halvL_sm hr.Sm.es
      · exact halvI_sm hr
    split
    · exact ⟨⟨Nat.zero_le _, by simp, by simp, Nat.zero_le _⟩, this.1, this.2⟩
    · exact ⟨hr.Sm, ndZ_gd.Sm, ndZ_gd.Sm⟩
  · rw [splitR_no c0]
    exact ⟨hr.Sm, ndZ_gd.Sm, ndZ_gd.Sm⟩
theorem a_sames (a : Nd) (h : a.Sm) : AFn Tryz.prog 14 [a.av, a.av] (boolA true) := by
  have := a_same10 a a h
  rwa [decide_eq_true rfl] at this
theorem tmod_bd (n m : Int) (h : 0 < m) : -m < n.tmod m ∧ n.tmod m < m := by
  have h1 := Int.tmod_lt_of_pos n h
  have h2 := Int.lt_tmod_of_pos n h
  omega
attribute [local irreducible] OpOK AWops AW CondB Go2 AFn thenA inBlockA noGotoA orderOk wantedA
set_option maxRecDepth 100000 in
set_option maxHeartbeats 4000000 in
theorem a_actInsert (e p : List Int) (v : Int) (l : List Int) (x : Int) (he : (∀ n ∈ e, -9223372036854775808 ≤ n ∧ n ≤ 9223372036854775807)) (hl : p.length ≤ 17592186044400) (hb : (∀ n ∈ p, -9223372036854775808 ≤ n ∧ n ≤ 9223372036854775807)) (hv : (-9223372036854775808 ≤ v ∧ v ≤ 9223372036854775807)) (hlb : (∀ n ∈ l, -9223372036854775808 ≤ n ∧ n ≤ 9223372036854775807)) (hx : (-9223372036854775808 ≤ x ∧ x ≤ 9223372036854775807)) : AFn Tryz.prog 3 [intsA e, intsA p, intA v, intsA l, intA x] (boolA true) := by
  have c1 := a_lmsg x 900 hx (by omega)
  have c2 := a_lleaf e he
  have c3 := a_inner p v l hl hb hv hlb
  have hm := lawMsg_ok x 900
  have c4 := a_actinsert (leafN e) (leafN_gd e) (lawMsg x 900) hm
  have c5 := a_refinsert10 (leafN e) (leafN_gd e) (lawMsg x 900) hm
  have c6 := a_actinsert (innerN p v l) (innerN_gd p v l) (lawMsg x 900) hm
  have c7 := a_refinsert10 (innerN p v l) (innerN_gd p v l) (lawMsg x 900) hm
  have s1 := ins_sm (leafN_gd e) (lawMsg x 900)
  have s2 := ins_sm (innerN_gd p v l) (lawMsg x 900)
  have c8 := a_sames _ s1
  have c9 := a_sames _ s2
  have ca := a_ref09fits _ s1
  have cb := a_ref09fits _ s2
  rw [ins_fits (leafN_fits e)] at ca
  rw [ins_fits (innerN_fits p v l)] at cb
  generalize lawMsg x 900 = M at *
  generalize leafN e = A at *
  generalize innerN p v l = C at *
  generalize (insN A M).1 = a at *
  generalize (insN A M).2 = ok at *
  generalize (insN C M).1 = c at *
  generalize (insN C M).2 = ic at *
  refine AFn_intro Tryz.func3 rfl Tryz.ntmps3 rfl (by simp) [_] rfl fun E hE => ?_; have hnt : (!true) = false := rfl; have hnf : (!false) = true := rfl
  have d1 := acall Tryz.func9 (c1) (by decide +kernel) (by decide +kernel)
  have d2 := acall Tryz.func11 (c2) (by decide +kernel) (by decide +kernel)
  have d3 := acall Tryz.func13 (c3) (by decide +kernel) (by decide +kernel)
  have d4 := acall Tryz.func10 (c4) (by decide +kernel) (by decide +kernel)
  have d5 := acall Tryz.func12 (c5) (by decide +kernel) (by decide +kernel)
  have d6 := acall Tryz.func10 (c6) (by decide +kernel) (by decide +kernel)
  have d7 := acall Tryz.func12 (c7) (by decide +kernel) (by decide +kernel)
  have d8 := acall Tryz.func14 (c8) (by decide +kernel) (by decide +kernel)
  have d9 := acall Tryz.func14 (c9) (by decide +kernel) (by decide +kernel)
  have da := acall Tryz.func15 (ca) (by decide +kernel) (by decide +kernel)
  have db := acall Tryz.func15 (cb) (by decide +kernel) (by decide +kernel)
  have dc := acall Tryz.func16 (a_awake10) (by decide +kernel) (by decide +kernel)
  refine wI ?_
  exact fin ⟨res_of rfl rfl rfl, trivial⟩
set_option maxRecDepth 100000 in
set_option maxHeartbeats 4000000 in
theorem a_actPush (p l e c m : List Int) (i : Int) (inner : Bool) (hpl : p.length ≤ 17592186044400) (hp : (∀ n ∈ p, -9223372036854775808 ≤ n ∧ n ≤ 9223372036854775807)) (hl : (∀ n ∈ l, -9223372036854775808 ≤ n ∧ n ≤ 9223372036854775807)) (he : (∀ n ∈ e, -9223372036854775808 ≤ n ∧ n ≤ 9223372036854775807)) (hcl : c.length ≤ 17592186044400) (hc : (∀ n ∈ c, -9223372036854775808 ≤ n ∧ n ≤ 9223372036854775807)) (hm : (∀ n ∈ m, -9223372036854775808 ≤ n ∧ n ≤ 9223372036854775807)) (hi : (-9223372036854775808 ≤ i ∧ i ≤ 9223372036854775807)) : AFn Tryz.prog 4 [intsA p, intsA l, intsA e, intsA c, intsA m, intA i, boolA inner] (boolA true) := by
  have c1 := a_inner p 50 l hpl hp (by omega) hl
  have c2 := a_lleaf e he
  have c3 := a_inner c 90 m hcl hc (by omega) hm
  have ht := tmod_bd i 6 (by omega)
  cases inner with
  | false =>
    have c4 := a_actpush (innerN p 50 l) (leafN e) (innerN_gd p 50 l) (leafN_gd e) (i.tmod 6)
    have c5 := a_refpush (innerN p 50 l) (leafN e) (innerN_gd p 50 l) (leafN_gd e) (i.tmod 6)
    have c6 := a_actpush (leafN e) (leafN e) (leafN_gd e) (leafN_gd e) (i.tmod 6)
    rw [push_leaf (show (leafN e).leaf = true from rfl)] at c6
    have s1 := push_sm (innerN_gd p 50 l) (leafN_gd e) (i.tmod 6)
    have c8 := a_sames _ s1.1
    have c9 := a_sames _ s1.2
    generalize pushN (innerN p 50 l) (leafN e) (i.tmod 6) = r at *
    generalize innerN p 50 l = A at *
    generalize innerN c 90 m = C at *
    generalize leafN e = D at *
    refine AFn_intro Tryz.func4 rfl Tryz.ntmps4 rfl (by simp) [_] rfl fun E hE => ?_; have hnt : (!true) = false := rfl; have hnf : (!false) = true := rfl
    have d1 := acall Tryz.func13 (c1) (by decide +kernel) (by decide +kernel)
    have d2 := acall Tryz.func11 (c2) (by decide +kernel) (by decide +kernel)
    have d3 := acall Tryz.func13 (c3) (by decide +kernel) (by decide +kernel)
    have d4 := acall Tryz.func17 (c4) (by decide +kernel) (by decide +kernel)
    have d5 := acall Tryz.func18 (c5) (by decide +kernel) (by decide +kernel)
    have d6 := acall Tryz.func17 (c6) (by decide +kernel) (by decide +kernel)
    have d8 := acall Tryz.func14 (c8) (by decide +kernel) (by decide +kernel)
    have d9 := acall Tryz.func14 (c9) (by decide +kernel) (by decide +kernel)
    have dc := acall Tryz.func16 (a_awake10) (by decide +kernel) (by decide +kernel)
    have qr : ¬ r.2.2 ≠ r.2.2 := fun h => h rfl
    refine wI ?_
    exact fin ⟨res_of rfl rfl rfl, trivial⟩
  | true =>
    have c4 := a_actpush (innerN p 50 l) (innerN c 90 m) (innerN_gd p 50 l) (innerN_gd c 90 m) (i.tmod 6)
    have c5 := a_refpush (innerN p 50 l) (innerN c 90 m) (innerN_gd p 50 l) (innerN_gd c 90 m) (i.tmod 6)
    have c6 := a_actpush (leafN e) (innerN c 90 m) (leafN_gd e) (innerN_gd c 90 m) (i.tmod 6)
    rw [push_leaf (show (leafN e).leaf = true from rfl)] at c6
    have s1 := push_sm (innerN_gd p 50 l) (innerN_gd c 90 m) (i.tmod 6)
    have c8 := a_sames _ s1.1
    have c9 := a_sames _ s1.2
    generalize pushN (innerN p 50 l) (innerN c 90 m) (i.tmod 6) = r at *
    generalize innerN p 50 l = A at *
    generalize innerN c 90 m = C at *
    generalize leafN e = D at *
    refine AFn_intro Tryz.func4 rfl Tryz.ntmps4 rfl (by simp) [_] rfl fun E hE => ?_; have hnt : (!true) = false := rfl; have hnf : (!false) = true := rfl
    have d1 := acall Tryz.func13 (c1) (by decide +kernel) (by decide +kernel)
    have d2 := acall Tryz.func11 (c2) (by decide +kernel) (by decide +kernel)
    have d3 := acall Tryz.func13 (c3) (by decide +kernel) (by decide +kernel)
    have d4 := acall Tryz.func17 (c4) (by decide +kernel) (by decide +kernel)
    have d5 := acall Tryz.func18 (c5) (by decide +kernel) (by decide +kernel)
    have d6 := acall Tryz.func17 (c6) (by decide +kernel) (by decide +kernel)
    have d8 := acall Tryz.func14 (c8) (by decide +kernel) (by decide +kernel)
    have d9 := acall Tryz.func14 (c9) (by decide +kernel) (by decide +kernel)
    have dc := acall Tryz.func16 (a_awake10) (by decide +kernel) (by decide +kernel)
    have qr : ¬ r.2.2 ≠ r.2.2 := fun h => h rfl
    refine wI ?_
    exact fin ⟨res_of rfl rfl rfl, trivial⟩
set_option maxRecDepth 100000 in
set_option maxHeartbeats 4000000 in
theorem a_actSplits (p l e c m : List Int) (i id : Int) (inner : Bool) (hpl : p.length ≤ 17592186044400) (hp : (∀ n ∈ p, -9223372036854775808 ≤ n ∧ n ≤ 9223372036854775807)) (hl : (∀ n ∈ l, -9223372036854775808 ≤ n ∧ n ≤ 9223372036854775807)) (he : (∀ n ∈ e, -9223372036854775808 ≤ n ∧ n ≤ 9223372036854775807)) (hcl : c.length ≤ 17592186044400) (hc : (∀ n ∈ c, -9223372036854775808 ≤ n ∧ n ≤ 9223372036854775807)) (hm : (∀ n ∈ m, -9223372036854775808 ≤ n ∧ n ≤ 9223372036854775807)) (hi : (-9223372036854775808 ≤ i ∧ i ≤ 9223372036854775807)) (hid : (-9223372036854775808 ≤ id ∧ id ≤ 9223372036854775807)) : AFn Tryz.prog 5 [intsA p, intsA l, intsA e, intsA c, intsA m, intA i, intA id, boolA inner] (boolA true) := by
  have c1 := a_inner p 50 l hpl hp (by omega) hl
  have c2 := a_lleaf e he
  have c3 := a_inner c 90 m hcl hc (by omega) hm
  have ht := tmod_bd i 6 (by omega)
  have ht2 := tmod_bd id 300 (by omega)
  have hin := innerN_lens p 50 l
  cases inner with
  | false =>
    have hln := leafN_lens e
    have c4 := a_splitleaf (innerN p 50 l) (leafN e) (innerN_gd p 50 l) (leafN_gd e) (innerN_lens p 50 l).2.2 (by omega) (by omega) (i.tmod 6) id
    have c5 := a_refsplitleaf (innerN p 50 l) (leafN e) (innerN_gd p 50 l) (leafN_gd e) (innerN_lens p 50 l).2.2 (by omega) (by omega) (i.tmod 6) id
    have c6 := a_splitinner (innerN p 50 l) (leafN e) (innerN_gd p 50 l) (leafN_gd e) (innerN_lens p 50 l).2.2 (i.tmod 6) (id.tmod 300)
    have c7 := a_refsplitinner (innerN p 50 l) (leafN e) (innerN_gd p 50 l) (leafN_gd e) (innerN_lens p 50 l).2.2 (i.tmod 6) (id.tmod 300)
    have c8 := a_splitroot (leafN e) (leafN_gd e) id (id.tmod 300 + 1)
    have c9 := a_refsplitroot (leafN e) (leafN_gd e) id (id.tmod 300 + 1)
    have s1 := splitL_sm (innerN_gd p 50 l) (leafN_gd e) (i.tmod 6) id
    have s2 := splitI_sm (innerN_gd p 50 l) (leafN_gd e) (i.tmod 6) (id.tmod 300)
    have s3 := splitR_sm (leafN_gd e) id (id.tmod 300 + 1)
    have e1 := a_sames _ s1.1
    have e2 := a_sames _ s1.2.1
    have e3 := a_sames _ s1.2.2
    have e4 := a_sames _ s2.1
    have e5 := a_sames _ s2.2.1
    have e6 := a_sames _ s2.2.2
    have e7 := a_sames _ s3.1
    have e8 := a_sames _ s3.2.1
    have e9 := a_sames _ s3.2.2
    unfold tup4 at c4 c5 c6 c7 c8 c9
    generalize splitL (innerN p 50 l) (leafN e) (i.tmod 6) id = r at *
    generalize splitI (innerN p 50 l) (leafN e) (i.tmod 6) (id.tmod 300) = s at *
    generalize splitR (leafN e) id (id.tmod 300 + 1) = t at *
    clear s1 s2 s3 hln hin
    generalize innerN p 50 l = A at *
    generalize innerN c 90 m = C at *
    generalize leafN e = D at *
    refine AFn_intro Tryz.func5 rfl Tryz.ntmps5 rfl (by simp) [_] rfl fun E hE => ?_; have hnt : (!true) = false := rfl; have hnf : (!false) = true := rfl
    have d1 := acall Tryz.func13 (c1) (by decide +kernel) (by decide +kernel)
    have d2 := acall Tryz.func11 (c2) (by decide +kernel) (by decide +kernel)
    have d3 := acall Tryz.func13 (c3) (by decide +kernel) (by decide +kernel)
    have d4 := acall Tryz.func19 (c4) (by decide +kernel) (by decide +kernel)
    have d5 := acall Tryz.func20 (c5) (by decide +kernel) (by decide +kernel)
    have d6 := acall Tryz.func21 (c6) (by decide +kernel) (by decide +kernel)
    have d7 := acall Tryz.func22 (c7) (by decide +kernel) (by decide +kernel)
    have d8 := acall Tryz.func23 (c8) (by decide +kernel) (by decide +kernel)
    have d9 := acall Tryz.func24 (c9) (by decide +kernel) (by decide +kernel)
    have f1 := acall Tryz.func14 (e1) (by decide +kernel) (by decide +kernel)
    have f2 := acall Tryz.func14 (e2) (by decide +kernel) (by decide +kernel)
    have f3 := acall Tryz.func14 (e3) (by decide +kernel) (by decide +kernel)
    have f4 := acall Tryz.func14 (e4) (by decide +kernel) (by decide +kernel)
    have f5 := acall Tryz.func14 (e5) (by decide +kernel) (by decide +kernel)
    have f6 := acall Tryz.func14 (e6) (by decide +kernel) (by decide +kernel)
    have f7 := acall Tryz.func14 (e7) (by decide +kernel) (by decide +kernel)
    have f8 := acall Tryz.func14 (e8) (by decide +kernel) (by decide +kernel)
    have f9 := acall Tryz.func14 (e9) (by decide +kernel) (by decide +kernel)
    have dc := acall Tryz.func16 (a_awake10) (by decide +kernel) (by decide +kernel)
    have qr : ¬ r.2.2.2 ≠ r.2.2.2 := fun h => h rfl
    have qs : ¬ s.2.2.2 ≠ s.2.2.2 := fun h => h rfl
    clear c1 c2 c3 c4 c5 c6 c7 c8 c9 e1 e2 e3 e4 e5 e6 e7 e8 e9
    refine wI ?_
    exact fin ⟨res_of rfl rfl rfl, trivial⟩
  | true =>
    have hln := innerN_lens c 90 m
    have c4 := a_splitleaf (innerN p 50 l) (innerN c 90 m) (innerN_gd p 50 l) (innerN_gd c 90 m) (innerN_lens p 50 l).2.2 (by omega) (by omega) (i.tmod 6) id
    have c5 := a_refsplitleaf (innerN p 50 l) (innerN c 90 m) (innerN_gd p 50 l) (innerN_gd c 90 m) (innerN_lens p 50 l).2.2 (by omega) (by omega) (i.tmod 6) id
    have c6 := a_splitinner (innerN p 50 l) (innerN c 90 m) (innerN_gd p 50 l) (innerN_gd c 90 m) (innerN_lens p 50 l).2.2 (i.tmod 6) (id.tmod 300)
    have c7 := a_refsplitinner (innerN p 50 l) (innerN c 90 m) (innerN_gd p 50 l) (innerN_gd c 90 m) (innerN_lens p 50 l).2.2 (i.tmod 6) (id.tmod 300)
    have c8 := a_splitroot (innerN c 90 m) (innerN_gd c 90 m) id (id.tmod 300 + 1)
    have c9 := a_refsplitroot (innerN c 90 m) (innerN_gd c 90 m) id (id.tmod 300 + 1)
    have s1 := splitL_sm (innerN_gd p 50 l) (innerN_gd c 90 m) (i.tmod 6) id
    have s2 := splitI_sm (innerN_gd p 50 l) (innerN_gd c 90 m) (i.tmod 6) (id.tmod 300)
    have s3 := splitR_sm (innerN_gd c 90 m) id (id.tmod 300 + 1)
    have e1 := a_sames _ s1.1
    have e2 := a_sames _ s1.2.1
    have e3 := a_sames _ s1.2.2
    have e4 := a_sames _ s2.1
    have e5 := a_sames _ s2.2.1
    have e6 := a_sames _ s2.2.2
    have e7 := a_sames _ s3.1
    have e8 := a_sames _ s3.2.1
    have e9 := a_sames _ s3.2.2
    unfold tup4 at c4 c5 c6 c7 c8 c9
    generalize splitL (innerN p 50 l) (innerN c 90 m) (i.tmod 6) id = r at *
    generalize splitI (innerN p 50 l) (innerN c 90 m) (i.tmod 6) (id.tmod 300) = s at *
    generalize splitR (innerN c 90 m) id (id.tmod 300 + 1) = t at *
    clear s1 s2 s3 hln hin
    generalize innerN p 50 l = A at *
    generalize innerN c 90 m = C at *
    generalize leafN e = D at *
    refine AFn_intro Tryz.func5 rfl Tryz.ntmps5 rfl (by simp) [_] rfl fun E hE => ?_; have hnt : (!true) = false := rfl; have hnf : (!false) = true := rfl
    have d1 := acall Tryz.func13 (c1) (by decide +kernel) (by decide +kernel)
    have d2 := acall Tryz.func11 (c2) (by decide +kernel) (by decide +kernel)
    have d3 := acall Tryz.func13 (c3) (by decide +kernel) (by decide +kernel)
    have d4 := acall Tryz.func19 (c4) (by decide +kernel) (by decide +kernel)
    have d5 := acall Tryz.func20 (c5) (by decide +kernel) (by decide +kernel)
    have d6 := acall Tryz.func21 (c6) (by decide +kernel) (by decide +kernel)
    have d7 := acall Tryz.func22 (c7) (by decide +kernel) (by decide +kernel)
    have d8 := acall Tryz.func23 (c8) (by decide +kernel) (by decide +kernel)
    have d9 := acall Tryz.func24 (c9) (by decide +kernel) (by decide +kernel)
    have f1 := acall Tryz.func14 (e1) (by decide +kernel) (by decide +kernel)
    have f2 := acall Tryz.func14 (e2) (by decide +kernel) (by decide +kernel)
    have f3 := acall Tryz.func14 (e3) (by decide +kernel) (by decide +kernel)
    have f4 := acall Tryz.func14 (e4) (by decide +kernel) (by decide +kernel)
    have f5 := acall Tryz.func14 (e5) (by decide +kernel) (by decide +kernel)
    have f6 := acall Tryz.func14 (e6) (by decide +kernel) (by decide +kernel)
    have f7 := acall Tryz.func14 (e7) (by decide +kernel) (by decide +kernel)
    have f8 := acall Tryz.func14 (e8) (by decide +kernel) (by decide +kernel)
    have f9 := acall Tryz.func14 (e9) (by decide +kernel) (by decide +kernel)
    have dc := acall Tryz.func16 (a_awake10) (by decide +kernel) (by decide +kernel)
    have qr : ¬ r.2.2.2 ≠ r.2.2.2 := fun h => h rfl
    have qs : ¬ s.2.2.2 ≠ s.2.2.2 := fun h => h rfl
    clear c1 c2 c3 c4 c5 c6 c7 c8 c9 e1 e2 e3 e4 e5 e6 e7 e8 e9
    refine wI ?_
    exact fin ⟨res_of rfl rfl rfl, trivial⟩
theorem actInsert_walk (v0 : Value) (l0 : List (Int)) (v1 : Value) (l1 : List (Int)) (n2 : Int) (v3 : Value) (l3 : List (Int)) (n4 : Int) (w : World) (s0 : Sl ie 1 w v0 l0) (g0 : ∀ n ∈ l0, -9223372036854775808 ≤ n ∧ n ≤ 9223372036854775807) (z0 : l0.length ≤ 17592186043904) (s1 : Sl ie 1 w v1 l1) (g1 : ∀ n ∈ l1, -9223372036854775808 ≤ n ∧ n ≤ 9223372036854775807) (z1 : l1.length ≤ 17592186043904) (b2 : -9223372036854775808 ≤ n2 ∧ n2 ≤ 9223372036854775807) (s3 : Sl ie 1 w v3 l3) (g3 : ∀ n ∈ l3, -9223372036854775808 ≤ n ∧ n ≤ 9223372036854775807) (z3 : l3.length ≤ 17592186043904) (b4 : -9223372036854775808 ≤ n4 ∧ n4 ≤ 9223372036854775807) :
    Calls Tryz.prog 3 #[v0, v1, .int .i64 n2, v3, .int .i64 n4] w (Is w (.bool true)) :=
  law_of (a_actInsert l0 l1 n2 l3 n4 g0 (by omega) g1 b2 g3 b4) (rdp_cons rfl (ints_in s0) (rdp_cons rfl (ints_in s1) (rdp_cons rfl int_in (rdp_cons rfl (ints_in s3) (rdp_cons rfl int_in rdp_nil')))))
theorem actPush_walk (v0 : Value) (l0 : List (Int)) (v1 : Value) (l1 : List (Int)) (v2 : Value) (l2 : List (Int)) (v3 : Value) (l3 : List (Int)) (v4 : Value) (l4 : List (Int)) (n5 : Int) (c6 : Bool) (w : World) (s0 : Sl ie 1 w v0 l0) (g0 : ∀ n ∈ l0, -9223372036854775808 ≤ n ∧ n ≤ 9223372036854775807) (z0 : l0.length ≤ 17592186043904) (s1 : Sl ie 1 w v1 l1) (g1 : ∀ n ∈ l1, -9223372036854775808 ≤ n ∧ n ≤ 9223372036854775807) (z1 : l1.length ≤ 17592186043904) (s2 : Sl ie 1 w v2 l2) (g2 : ∀ n ∈ l2, -9223372036854775808 ≤ n ∧ n ≤ 9223372036854775807) (z2 : l2.length ≤ 17592186043904) (s3 : Sl ie 1 w v3 l3) (g3 : ∀ n ∈ l3, -9223372036854775808 ≤ n ∧ n ≤ 9223372036854775807) (z3 : l3.length ≤ 17592186043904) (s4 : Sl ie 1 w v4 l4) (g4 : ∀ n ∈ l4, -9223372036854775808 ≤ n ∧ n ≤ 9223372036854775807) (z4 : l4.length ≤ 17592186043904) (b5 : -9223372036854775808 ≤ n5 ∧ n5 ≤ 9223372036854775807) :
    Calls Tryz.prog 4 #[v0, v1, v2, v3, v4, .int .i64 n5, .bool c6] w (Is w (.bool true)) :=
  law_of (a_actPush l0 l1 l2 l3 l4 n5 c6 (by omega) g0 g1 g2 (by omega) g3 g4 b5) (rdp_cons rfl (ints_in s0) (rdp_cons rfl (ints_in s1) (rdp_cons rfl (ints_in s2) (rdp_cons rfl (ints_in s3) (rdp_cons rfl (ints_in s4) (rdp_cons rfl int_in (rdp_cons rfl (Rdv_v.2 ⟨rfl, rfl⟩) rdp_nil')))))))
theorem actSplits_walk (v0 : Value) (l0 : List (Int)) (v1 : Value) (l1 : List (Int)) (v2 : Value) (l2 : List (Int)) (v3 : Value) (l3 : List (Int)) (v4 : Value) (l4 : List (Int)) (n5 : Int) (n6 : Int) (c7 : Bool) (w : World) (s0 : Sl ie 1 w v0 l0) (g0 : ∀ n ∈ l0, -9223372036854775808 ≤ n ∧ n ≤ 9223372036854775807) (z0 : l0.length ≤ 17592186043904) (s1 : Sl ie 1 w v1 l1) (g1 : ∀ n ∈ l1, -9223372036854775808 ≤ n ∧ n ≤ 9223372036854775807) (z1 : l1.length ≤ 17592186043904) (s2 : Sl ie 1 w v2 l2) (g2 : ∀ n ∈ l2, -9223372036854775808 ≤ n ∧ n ≤ 9223372036854775807) (z2 : l2.length ≤ 17592186043904) (s3 : Sl ie 1 w v3 l3) (g3 : ∀ n ∈ l3, -9223372036854775808 ≤ n ∧ n ≤ 9223372036854775807) (z3 : l3.length ≤ 17592186043904) (s4 : Sl ie 1 w v4 l4) (g4 : ∀ n ∈ l4, -9223372036854775808 ≤ n ∧ n ≤ 9223372036854775807) (z4 : l4.length ≤ 17592186043904) (b5 : -9223372036854775808 ≤ n5 ∧ n5 ≤ 9223372036854775807) (b6 : -9223372036854775808 ≤ n6 ∧ n6 ≤ 9223372036854775807) :
    Calls Tryz.prog 5 #[v0, v1, v2, v3, v4, .int .i64 n5, .int .i64 n6, .bool c7] w (Is w (.bool true)) :=
  law_of (a_actSplits l0 l1 l2 l3 l4 n5 n6 c7 (by omega) g0 g1 g2 (by omega) g3 g4 b5 b6) (rdp_cons rfl (ints_in s0) (rdp_cons rfl (ints_in s1) (rdp_cons rfl (ints_in s2) (rdp_cons rfl (ints_in s3) (rdp_cons rfl (ints_in s4) (rdp_cons rfl int_in (rdp_cons rfl int_in (rdp_cons rfl (Rdv_v.2 ⟨rfl, rfl⟩) rdp_nil'))))))))
end Go.Proofs.YtonjbnoeoececaaGreat

namespace Go.Proofs.YtonjbnoeoececaaGreat
open Go Go.RowKit
set_option linter.unusedVariables false
set_option linter.unusedSimpArgs false
set_option maxRecDepth 100000

section
variable {E : Env} {nt : Nat}
theorem Rel.rebox {B : Blk} {T : Nat → Option AV} {H : Hp} {a : Act} {w : World} (r : Rel E nt B T H a w) {b : Nat} {x x' : AV} (hb : H b = some (.var x)) (h : ∀ c, Rd (unst E B H) w x B H c → Rd (unst E B H) w x' B H c) : Rel E nt B T (upd H b (.var x')) a w := by
  obtain ⟨blk, cs, t, k1, k2, k3, _⟩ := r.box b _ hb
  exact r.store hb k1 k2 ⟨rfl, rfl, rfl, rfl, fun _ _ => rfl⟩ k2 rfl (h _ k3)
theorem rds_set {U : Uns} {w : World} {B : Blk} {H : Hp} {x x' : AV} (h : ∀ c, Rd U w x B H c → Rd U w x' B H c) : ∀ {pre post : List AV} {c : List Value}, Rds U w (pre ++ x :: post) B H c → Rds U w (pre ++ x' :: post) B H c
  | [], post, c, k => by
    simp only [List.nil_append, Rds] at k ⊢
    obtain ⟨c1, c2, e, k1, k2⟩ := k
    exact ⟨c1, c2, e, h _ k1, k2⟩
  | y :: pre, post, c, k => by
    simp only [List.cons_append, Rds] at k ⊢
    obtain ⟨c1, c2, e, k1, k2⟩ := k
    exact ⟨c1, c2, e, k1, rds_set h k2⟩
/-- a nil slice in a struct of the function's own: a row that has no block yet -/
theorem Go2.tokB {T : List (Nat × AV)} {H : List (Nat × Bx)} (b g n : Nat) (e : TypeId) {m : Nat} (pre post : List AV) (hb : look b H = some (.var (.agg m (pre ++ .v (.slice none 0 0) :: post)))) (hg : look g H = none) :
    Go2 E nt ⟨T, H⟩ ⟨T, (b, .var (.agg m (pre ++ .sl (some g) (n + 1) [] :: post))) :: (g, .tail e (n + 1) 0) :: H⟩ := fun B a w r => by
  have r1 := r.token (g := g) (n := n + 1) (e := e) hg (Nat.succ_pos n)
  have hne : b ≠ g := fun k => by rw [k, hg] at hb; cases hb
  have hb1 : upd (St.h ⟨T, H⟩) g (.tail e (n + 1) 0) b = some (.var (.agg m (pre ++ .v (.slice none 0 0) :: post))) := by rw [upd_ne _ _ hne]; exact hb
  have r2 := r1.rebox (x' := .agg m (pre ++ .sl (some g) (n + 1) [] :: post)) hb1 (fun c h => by
    simp only [Rd] at h ⊢
    refine ⟨h.1, rds_set (fun c' h' => ?_) h.2⟩
    simp only [Rd] at h'
    rw [h'.2]
    exact nil_token (upd_same _ _ _) (r.non g hg))
  refine ⟨B, ?_⟩
  have e1 : St.h ⟨T, (b, .var (.agg m (pre ++ .sl (some g) (n + 1) [] :: post))) :: (g, .tail e (n + 1) 0) :: H⟩ = upd (upd (St.h ⟨T, H⟩) g (.tail e (n + 1) 0)) b (.var (.agg m (pre ++ .sl (some g) (n + 1) [] :: post))) := by
    show (fun k => look k (_ :: _ :: H)) = _
    rw [look_cons]
    congr 1
    exact look_cons _ _ _
  rw [e1]
  exact r2
end
def nodesA (l : List Nd) : AV := .sl none 5 (l.map Nd.av)
theorem valN_snoc (x : Key) (u : Nd) : ∀ (l : List Nd) (o : Option Vl), valN x o (l ++ [u]) = apO (bfGet x u.ms) (valN x o l)
  | [], o => rfl
  | v :: l, o => valN_snoc x u l _
def kidEs (cuts : List Key) (j : Nat) (es : List Ent) : List Ent := es.filter fun e => decide (kidBy keyCmp e.key cuts = j)
def kidPs (cuts : List Key) (j : Nat) (ps : List Key) : List Key := ps.filter fun k => decide (kidBy keyCmp k cuts = j)
theorem filter_on {α : Type} (f : α → Bool) (l : List α) (j : Nat) (h : j < l.length) (c : f l[j] = true) : (l.take (j + 1)).filter f = (l.take j).filter f ++ [l[j]] := by
  rw [List.take_succ_eq_append_getElem h, List.filter_append, List.filter_cons_of_pos c]; rfl
theorem filter_off {α : Type} (f : α → Bool) (l : List α) (j : Nat) (h : j < l.length) (c : f l[j] = false) : (l.take (j + 1)).filter f = (l.take j).filter f := by
  rw [List.take_succ_eq_append_getElem h, List.filter_append, List.filter_cons_of_neg (by rw [c]; simp), List.filter_nil, List.append_nil]
theorem filter_len {α : Type} (f : α → Bool) (l : List α) (j : Nat) : ((l.take j).filter f).length ≤ l.length := by
  have h1 := List.length_filter_le f (l.take j)
  rw [List.length_take] at h1
  omega
/-- the node under a kid, of an inner one -/
def kidI (n : Nd) (cuts : List Key) (j : Nat) : Nd := if kidPs cuts j n.ps = [] then leafOf [] else ⟨false, [], n.ks.take ((kidPs cuts j n.ps).length + 1), kidPs cuts j n.ps, bfPart n.ms cuts j⟩
attribute [local irreducible] OpOK AWops AW CondB Go2 AFn thenA inBlockA noGotoA orderOk wantedA
set_option maxRecDepth 100000 in
set_option maxHeartbeats 4000000 in
theorem a_value10 (l : Nd) (hs : Srt l.es) (hl : l.es.length ≤ 1000000) (x : Key) (ups : List Nd) (hu : ∀ u ∈ ups, BSrt u.ms ∧ u.ms.length ≤ 1000000) (hul : ups.length ≤ 1000000) : AFn Tryz.prog 28 [l.av, x.av, nodesA ups] (.tup [(opA (valN x (lfGet x l.es) ups)).1.av, boolA (opA (valN x (lfGet x l.es) ups)).2]) := by
  have c1 := a_ref07find l.es x hs (by omega)
  generalize lfGet x l.es = o at *
  refine AFn_intro Tryz.func28 rfl Tryz.ntmps28 rfl (by simp) [_, _] rfl fun E hE => ?_; have hnt : (!true) = false := rfl; have hnf : (!false) = true := rfl
  have d1 := acall Tryz.func32 (c1) (by decide +kernel) (by decide +kernel)
  refine wI ?_
  refine AW_loopI (fun j : Nat => ⟨[(2, nodesA ups), (4, .ptr 4 0 []), (6, .ptr 6 0 []), (8, .ptr 8 0 []), (9, boolA (opA (valN x o (ups.take j))).2), (10, intA j)], [(4, .var x.av), (6, .var Vl.zero.av), (8, .var (opA (valN x o (ups.take j))).1.av)]⟩) (fun j => j ≤ ups.length) (fun j => ups.length - j) 0 (Nat.zero_le _) (by (refine Go2.sub ⟨?_, ?_⟩ <;> repeat' (first | exact True.intro | rfl | apply And.intro))) (fun j hj => ?_)
  by_cases c : j < ups.length
  · have hm := hu ups[j] (List.getElem_mem c)
    have cf := a_ref06find ups[j].ms x hm.1 (by omega)
    have hsn : valN x o (ups.take (j + 1)) = apO (bfGet x ups[j].ms) (valN x o (ups.take j)) := by rw [List.take_succ_eq_append_getElem c, valN_snoc]
    generalize valN x o (ups.take j) = V at *
    cases q : bfGet x ups[j].ms with
    | none =>
      rw [q] at cf hsn
      rw [show opM none = (Msg.zero, false) from rfl] at cf
      dsimp only at cf
      have d2 := acall Tryz.func56 (cf) (by decide +kernel) (by decide +kernel)
      refine wI ?_
      refine ⟨j + 1, c, by omega, ?_⟩
      rw [hsn]
      (refine Go2.sub ⟨?_, ?_⟩ <;> repeat' (first | exact True.intro | rfl | apply And.intro))
    | some m =>
      rw [q] at cf hsn
      rw [show opM (some m) = (m, true) from rfl] at cf
      dsimp only at cf
      have ca := a_refapply (opA V).1 (opA V).2 m
      rw [applyM_ap] at ca
      rw [show apO (some m) V = ap m V from rfl] at hsn
      generalize ap m V = V2 at *
      have d2 := acall Tryz.func56 (cf) (by decide +kernel) (by decide +kernel)
      have d3 := acall Tryz.func57 (ca) (by decide +kernel) (by decide +kernel)
      refine wI ?_
      refine ⟨j + 1, c, by omega, ?_⟩
      rw [hsn]
      (refine Go2.sub ⟨?_, ?_⟩ <;> repeat' (first | exact True.intro | rfl | apply And.intro))
  · obtain rfl : j = ups.length := by omega
    rw [List.take_length]
    refine wI ?_
    exact fin ⟨res_var rfl rfl rfl rfl, res_of rfl rfl rfl, trivial⟩
set_option maxRecDepth 100000 in
set_option maxHeartbeats 4000000 in
theorem a_kidleaf (p : Nd) (hp : p.Gd) (j : Nat) (hj : j ≤ p.ps.length) (e : List Int) (he : ∀ n ∈ e, -9223372036854775808 ≤ n ∧ n ≤ 9223372036854775807) : AFn Tryz.prog 26 [p.av, intA j, boolA false, intsA e, nilA, nilA] (leafOf (kidEs p.ps j (leafN e).es)).av := by
  have hpl := hp.ps
  have c1 := a_lleaf e he
  have hlen := (leafN_lens e).1
  have hlf := (leafN_gd e).lf
  have hn : leafN e = ⟨true, (leafN e).es, [], [], []⟩ := rfl
  have cp : AFn Tryz.prog 54 [msgsA [], keysA p.ps, intA j] (msgsA []) := by
    have h := a_ref06part [] p.ps j bf_nil hp.rs hj (by simp) (by omega)
    rwa [show bfPart [] p.ps j = [] from by unfold bfPart; simp] at h
  rw [hn] at c1
  dsimp only [Nd.av] at c1
  generalize (leafN e).es = es at *
  clear hn
  unfold kidEs leafOf
  dsimp only [Nd.av]
  have z0 : ¬ ((0 : Nat) : Int) < (([] : List Key).length : Int) := by simp
  have z1 : ¬ (0 : Int) < (([] : List Key).length : Int) := by simp
  refine AFn_intro Tryz.func26 rfl Tryz.ntmps26 rfl (by simp) [_] rfl fun E hE => ?_; have hnt : (!true) = false := rfl; have hnf : (!false) = true := rfl
  have d1 := acall Tryz.func11 (c1) (by decide +kernel) (by decide +kernel)
  have d2 := acall Tryz.func54 (cp) (by decide +kernel) (by decide +kernel)
  refine wI ?_
  refine AW_go (Go2.tokB 14 54 25 63 [boolA true] [intsA [], nilA, nilA] rfl rfl) ?_
  refine AW_loopI (fun i : Nat => ⟨[(1, intA j), (6, .ptr 6 0 []), (12, .ptr 12 0 []), (13, .ptr 13 0 []), (14, .ptr 14 0 []), (15, intA i)], [(6, .var p.av), (12, .var (nodeA false nilA nilA nilA nilA)), (13, .var (nodeA true (entsA es) (intsA []) (keysA []) (msgsA []))), (14, .var (.agg 5 ([boolA true] ++ .sl (some 54) 26 (((es.take i).filter fun e => decide (kidBy keyCmp e.key p.ps = j)).map Ent.av) :: [intsA [], nilA, nilA]))), (54, .tail 63 26 ((es.take i).filter fun e => decide (kidBy keyCmp e.key p.ps = j)).length)]⟩) (fun i => i ≤ es.length) (fun i => es.length - i) 0 (Nat.zero_le _) (by (refine Go2.sub ⟨?_, ?_⟩ <;> repeat' (first | exact True.intro | rfl | apply And.intro))) (fun i hi => ?_)
  by_cases c : i < es.length
  · have hk := (hlf.ok es[i] (List.getElem_mem c)).1
    have ck := a_refkid p.ps es[i].key (by omega)
    rw [kidBy_ref hp.rs hk] at ck
    have d3 := acall Tryz.func29 (ck) (by decide +kernel) (by decide +kernel)
    have hfl := filter_len (fun e => decide (kidBy keyCmp e.key p.ps = j)) es i
    by_cases q : kidBy keyCmp es[i].key p.ps = j
    · have hs := filter_on (fun e => decide (kidBy keyCmp e.key p.ps = j)) es i c (decide_eq_true q)
      generalize hF : (es.take i).filter (fun e => decide (kidBy keyCmp e.key p.ps = j)) = F at *
      refine wI ?_
      refine ⟨i + 1, c, by omega, ?_⟩
      rw [hs]
      (refine Go2.sub ⟨?_, ?_⟩ <;> repeat' (first | exact True.intro | rfl | apply And.intro))
    · have hs := filter_off (fun e => decide (kidBy keyCmp e.key p.ps = j)) es i c (decide_eq_false q)
      generalize hF : (es.take i).filter (fun e => decide (kidBy keyCmp e.key p.ps = j)) = F at *
      refine wI ?_
      refine ⟨i + 1, c, by omega, ?_⟩
      rw [hs]
      (refine Go2.sub ⟨?_, ?_⟩ <;> repeat' (first | exact True.intro | rfl | apply And.intro))
  · obtain rfl : i = es.length := by omega
    rw [List.take_length]
    generalize es.filter (fun e => decide (kidBy keyCmp e.key p.ps = j)) = F at *
    refine wI ?_
    refine AW_loopI (fun i : Nat => ⟨[(12, .ptr 12 0 []), (13, .ptr 13 0 []), (14, .ptr 14 0 []), (16, intA i)], [(12, .var (nodeA false nilA nilA nilA nilA)), (13, .var (nodeA true (entsA es) (intsA []) (keysA []) (msgsA []))), (14, .var (.agg 5 [boolA true, .sl (some 54) 26 (F.map Ent.av), intsA [], nilA, msgsA []])), (54, .tail 63 26 F.length)]⟩) (fun i => i = 0) (fun i => 0) 0 rfl (by (refine Go2.sub ⟨?_, ?_⟩ <;> repeat' (first | exact True.intro | rfl | apply And.intro))) (fun i hi => ?_)
    subst hi
    refine wI ?_
    exact fin ⟨res_varl rfl rfl rfl (fun _ => by (repeat (first | exact wkl0 | refine wkd rfl ?_ | refine wkt ?_ | refine wkn ?_))), trivial⟩
set_option maxRecDepth 100000 in
set_option maxHeartbeats 4000000 in
theorem a_kidinner (p : Nd) (hp : p.Gd) (j : Nat) (hj : j ≤ p.ps.length) (c m : List Int) (hcl : c.length ≤ 17592186044400) (hc : ∀ n ∈ c, -9223372036854775808 ≤ n ∧ n ≤ 9223372036854775807) (hm : ∀ n ∈ m, -9223372036854775808 ≤ n ∧ n ≤ 9223372036854775807) : AFn Tryz.prog 26 [p.av, intA j, boolA true, nilA, intsA c, intsA m] (kidI (innerN c 11 m) p.ps j).av := by
  have hpl := hp.ps
  have c1 := AFn_weak (a_lleaf [] (by simp)) (xs := [nilA]) (fun H => .cons Wk.nil .nil)
  have c2 := a_inner c 11 m hcl hc (by omega) hm
  have hg := innerN_gd c 11 m
  have hkl := innerN_kids c 11 m
  have h3 : (innerN c 11 m).ps.length ≤ 3 := by have := piv3 c; show (pivK _ _).length ≤ 3; omega
  have cp := a_ref06part (innerN c 11 m).ms p.ps j hg.bf hp.rs hj (by have := hg.ms; omega) (by omega)
  have hrs := hg.rs
  have hn : innerN c 11 m = ⟨false, [], (innerN c 11 m).ks, (innerN c 11 m).ps, (innerN c 11 m).ms⟩ := rfl
  unfold kidI kidPs
  rw [hn] at c2
  dsimp only [Nd.av] at c2
  generalize (innerN c 11 m).ks = K at *
  generalize (innerN c 11 m).ps = P at *
  generalize bfPart (innerN c 11 m).ms p.ps j = R at *
  generalize (innerN c 11 m).ms = M at *
  clear hg hn
  generalize leafN [] = z at *
  have z0 : ¬ ((0 : Nat) : Int) < (([] : List Ent).length : Int) := by simp
  have z1 : ¬ (0 : Int) < (([] : List Ent).length : Int) := by simp
  refine AFn_intro Tryz.func26 rfl Tryz.ntmps26 rfl (by simp) [_] rfl fun E hE => ?_; have hnt : (!true) = false := rfl; have hnf : (!false) = true := rfl
  have d0 := acall Tryz.func11 (c1) (by decide +kernel) (by decide +kernel)
  have d1 := acall Tryz.func13 (c2) (by decide +kernel) (by decide +kernel)
  have d2 := acall Tryz.func54 (cp) (by decide +kernel) (by decide +kernel)
  refine wI ?_
  refine AW_loopI (fun i : Nat => ⟨[(1, intA j), (6, .ptr 6 0 []), (12, .ptr 12 0 []), (13, .ptr 13 0 []), (14, .ptr 14 0 []), (15, intA i)], [(6, .var p.av), (12, .var (nodeA false nilA nilA nilA nilA)), (13, .var (nodeA false (entsA []) (intsA K) (keysA P) (msgsA M))), (14, .var (nodeA false nilA (intsA K) nilA nilA))]⟩) (fun i => i = 0) (fun i => 0) 0 rfl (by (refine Go2.sub ⟨?_, ?_⟩ <;> repeat' (first | exact True.intro | rfl | apply And.intro))) (fun i hi => ?_)
  subst hi
  refine wI ?_
  refine AW_go (Go2.tokB 14 88 8 26 [boolA false, nilA, intsA K] [msgsA R] rfl rfl) ?_
  refine AW_loopI (fun i : Nat => ⟨[(1, intA j), (6, .ptr 6 0 []), (12, .ptr 12 0 []), (13, .ptr 13 0 []), (14, .ptr 14 0 []), (16, intA i)], [(6, .var p.av), (12, .var (nodeA false nilA nilA nilA nilA)), (13, .var (nodeA false (entsA []) (intsA K) (keysA P) (msgsA M))), (14, .var (.agg 5 ([boolA false, nilA, intsA K] ++ .sl (some 88) 9 (((P.take i).filter fun k => decide (kidBy keyCmp k p.ps = j)).map Key.av) :: [msgsA R]))), (88, .tail 26 9 ((P.take i).filter fun k => decide (kidBy keyCmp k p.ps = j)).length)]⟩) (fun i => i ≤ P.length) (fun i => P.length - i) 0 (Nat.zero_le _) (by (refine Go2.sub ⟨?_, ?_⟩ <;> repeat' (first | exact True.intro | rfl | apply And.intro))) (fun i hi => ?_)
  by_cases cc : i < P.length
  · have hk := hrs.1 P[i] (List.getElem_mem cc)
    have ck := a_refkid p.ps P[i] (by omega)
    rw [kidBy_ref hp.rs hk] at ck
    have d3 := acall Tryz.func29 (ck) (by decide +kernel) (by decide +kernel)
    have hfl := filter_len (fun k => decide (kidBy keyCmp k p.ps = j)) P i
    by_cases q : kidBy keyCmp P[i] p.ps = j
    · have hs := filter_on (fun k => decide (kidBy keyCmp k p.ps = j)) P i cc (decide_eq_true q)
      generalize hF : (P.take i).filter (fun k => decide (kidBy keyCmp k p.ps = j)) = F at *
      refine wI ?_
      refine ⟨i + 1, cc, by omega, ?_⟩
      rw [hs]
      (refine Go2.sub ⟨?_, ?_⟩ <;> repeat' (first | exact True.intro | rfl | apply And.intro))
    · have hs := filter_off (fun k => decide (kidBy keyCmp k p.ps = j)) P i cc (decide_eq_false q)
      generalize hF : (P.take i).filter (fun k => decide (kidBy keyCmp k p.ps = j)) = F at *
      refine wI ?_
      refine ⟨i + 1, cc, by omega, ?_⟩
      rw [hs]
      (refine Go2.sub ⟨?_, ?_⟩ <;> repeat' (first | exact True.intro | rfl | apply And.intro))
  · obtain rfl : i = P.length := by omega
    have hfl := filter_len (fun k => decide (kidBy keyCmp k p.ps = j)) P P.length
    rw [List.take_length] at hfl ⊢
    generalize P.filter (fun k => decide (kidBy keyCmp k p.ps = j)) = F at *
    by_cases hF : F = []
    · rw [if_pos hF]
      have hF0 : F.length = 0 := by rw [hF]; rfl
      unfold leafOf
      dsimp only [Nd.av]
      refine wI ?_
      exact fin ⟨res_varl rfl rfl rfl (fun _ => by (repeat (first | exact wkl0 | refine wkd rfl ?_ | refine wkt ?_ | refine wkn ?_))), trivial⟩
    · rw [if_neg hF]
      have hF0 : 0 < F.length := List.length_pos_iff.2 hF
      dsimp only [Nd.av]
      refine wI ?_
      exact fin ⟨res_varl rfl rfl rfl (fun _ => by (repeat (first | exact wkl0 | refine wkd rfl ?_ | refine wkt ?_ | refine wkn ?_))), trivial⟩
end Go.Proofs.YtonjbnoeoececaaGreat
