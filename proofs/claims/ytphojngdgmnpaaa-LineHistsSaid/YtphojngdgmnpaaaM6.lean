/-
  M6: several texts as one: Evt, Hist1, Hist2, Hist3, Hist4, Hist5, LawLine14. No condition beyond those that each theorem states.
-/
import Derived.Test.YtphojngdgmnpaaaM5
namespace Go.Proofs.Ytphojngdgmnpaaa
open Go Go.RowKit
set_option linter.unusedVariables false
set_option linter.unusedSimpArgs false
set_option maxRecDepth 100000

/-! ### api.Event -/
structure Evt where
  client : Int
  index : Int
  done : Bool
  ans : Ans
def Evt.beq (a b : Evt) : Bool := a.client == b.client && a.index == b.index && a.done == b.done && a.ans.beq b.ans
theorem Evt.beq_iff {a b : Evt} : a.beq b = true ↔ a = b := by
  cases a; cases b
  simp [Evt.beq, and_assoc, Ans.beq_iff]
instance : DecidableEq Evt := fun a b => decidable_of_iff (a.beq b = true) Evt.beq_iff
theorem Evt.beq_dec (a b : Evt) : a.beq b = decide (a = b) := by rw [Bool.eq_iff_iff, Evt.beq_iff, decide_eq_true_eq]
@[irreducible] def Evt.arr (s : Evt) : Array Value := cat (cat (cat (cel (.int .i64 s.client)) (cel (.int .i64 s.index))) (cel (.bool s.done))) (s.ans.arr)
theorem Evt.arr_def (s : Evt) : s.arr = cat (cat (cat (cel (.int .i64 s.client)) (cel (.int .i64 s.index))) (cel (.bool s.done))) (s.ans.arr) := by unfold Evt.arr; rfl
theorem Evt.arr_size (s : Evt) : s.arr.size = 22 := by rw [Evt.arr_def]; simp [cat_size, cel_size, Ans.arr_size]
theorem Evt.arr_one (s : Evt) : oneCells s.arr = true := by rw [Evt.arr_def]; simp [oneCells_cat, oneCells_cel, Value.oneCell', Ans.arr_one]
theorem Evt.put (s x : Evt) : splice s.arr 0 x.arr = x.arr := splice_full _ _ (by rw [Evt.arr_size, Evt.arr_size])
theorem Evt.row (s : Evt) : rowOf s.arr 0 22 = some s.arr := rowOf_full _ _ s.arr_size
theorem Evt.arr_client (s : Evt) : s.arr[0]? = some (.int .i64 s.client) := by
  refine get_of_row ?_; rw [Evt.arr_def]; simp [rowOf_cat_left, rowOf_cat_right, rowOf_here, cat_size, cel_size, Ans.arr_size]
theorem Evt.get_client (s : Evt) (hs : 0 < s.arr.size) : s.arr[0]'hs = .int .i64 s.client := (Array.getElem?_eq_some_iff.1 (Evt.arr_client s)).2
theorem Evt.put_client (s : Evt) (x : Int) : splice s.arr 0 #[.int .i64 x] = ({ s with client := x } : Evt).arr := by rw [Evt.arr_def, Evt.arr_def, ← cel_def]; simp [splice_cat_left, splice_cat_right, splice_all, cat_size, cel_size, Ans.arr_size]
theorem Evt.set_client (s : Evt) (x : Int) : s.arr.setIfInBounds 0 (.int .i64 x) = ({ s with client := x } : Evt).arr := (splice_single _ _ _ (by rw [Evt.arr_size]; omega)).symm.trans (Evt.put_client s x)
theorem Evt.arr_index (s : Evt) : s.arr[1]? = some (.int .i64 s.index) := by
  refine get_of_row ?_; rw [Evt.arr_def]; simp [rowOf_cat_left, rowOf_cat_right, rowOf_here, cat_size, cel_size, Ans.arr_size]
theorem Evt.get_index (s : Evt) (hs : 1 < s.arr.size) : s.arr[1]'hs = .int .i64 s.index := (Array.getElem?_eq_some_iff.1 (Evt.arr_index s)).2
theorem Evt.put_index (s : Evt) (x : Int) : splice s.arr 1 #[.int .i64 x] = ({ s with index := x } : Evt).arr := by rw [Evt.arr_def, Evt.arr_def, ← cel_def]; simp [splice_cat_left, splice_cat_right, splice_all, cat_size, cel_size, Ans.arr_size]
theorem Evt.set_index (s : Evt) (x : Int) : s.arr.setIfInBounds 1 (.int .i64 x) = ({ s with index := x } : Evt).arr := (splice_single _ _ _ (by rw [Evt.arr_size]; omega)).symm.trans (Evt.put_index s x)
theorem Evt.arr_done (s : Evt) : s.arr[2]? = some (.bool s.done) := by
  refine get_of_row ?_; rw [Evt.arr_def]; simp [rowOf_cat_left, rowOf_cat_right, rowOf_here, cat_size, cel_size, Ans.arr_size]
theorem Evt.get_done (s : Evt) (hs : 2 < s.arr.size) : s.arr[2]'hs = .bool s.done := (Array.getElem?_eq_some_iff.1 (Evt.arr_done s)).2
theorem Evt.put_done (s : Evt) (x : Bool) : splice s.arr 2 #[.bool x] = ({ s with done := x } : Evt).arr := by rw [Evt.arr_def, Evt.arr_def, ← cel_def]; simp [splice_cat_left, splice_cat_right, splice_all, cat_size, cel_size, Ans.arr_size]
theorem Evt.set_done (s : Evt) (x : Bool) : s.arr.setIfInBounds 2 (.bool x) = ({ s with done := x } : Evt).arr := (splice_single _ _ _ (by rw [Evt.arr_size]; omega)).symm.trans (Evt.put_done s x)
theorem Evt.row_ans (s : Evt) : rowOf s.arr 3 19 = some (s.ans.arr) := by rw [Evt.arr_def]; simp [rowOf_cat_left, rowOf_cat_right, rowOf_here, cat_size, cel_size, Ans.arr_size]
theorem Evt.put_ans (s : Evt) (x : Ans) : splice s.arr 3 (x.arr) = ({ s with ans := x } : Evt).arr := by rw [Evt.arr_def, Evt.arr_def]; simp [splice_cat_left, splice_cat_right, splice_all, cat_size, cel_size, Ans.arr_size]
def Evt.zero : Evt := { client := 0, index := 0, done := false, ans := Ans.zero }
theorem Evt.zero_client : Evt.zero.client = 0 := rfl
theorem Evt.zero_index : Evt.zero.index = 0 := rfl
theorem Evt.zero_done : Evt.zero.done = false := rfl
theorem Evt.zero_ans : Evt.zero.ans = Ans.zero := rfl
theorem Evt.zero_arr : Evt.zero.arr = #[.int .i64 0, .int .i64 0, .bool false, .int .i64 0, .bool false, .int .i64 0, .int .u8 0, .int .u8 0, .int .u8 0, .int .u8 0, .int .u8 0, .int .u8 0, .int .u8 0, .int .u8 0, .int .u8 0, .int .u8 0, .int .u8 0, .int .u8 0, .int .u8 0, .int .u8 0, .int .u8 0, .int .u8 0] := by rw [Evt.arr_def]; simp [cat_def, cel_def, Evt.zero, bArr_zero, D64_zero, Ans.zero_arr]
theorem Evt.info : (Try.prog.info? 89).map (fun i => (i.zero, i.size)) = some (some (.agg Evt.zero.arr), 22) := by rw [Evt.zero_arr]; kernel_rfl
theorem Evt.size' : (Try.prog.info? 89).map (·.size) = some 22 := by kernel_rfl
theorem Evt.ld (v : Value) : Instr.loadAt 89 v = ldRow 89 v := ldRow_eq _ _
theorem Evt.st (a v : Value) : Instr.storeAt 89 a v = stRow 89 a v := stRow_eq _ _ _
theorem Evt.al (h : Bool) (v : Value) : Instr.alloc 89 h v = alRow 89 h v := alRow_eq _ _ _
theorem Evt.bd (ps : Array (Nat × Value)) : Instr.build 89 ps = bdRow 89 ps := bdRow_eq _ _
theorem Evt.load (b off : Nat) (w : World) : (ldRow 89 (.pointer (some ⟨b, off, none⟩))).run Try.prog w = onRow (row? w b off 22) w ((ldRow' 89 (.pointer (some ⟨b, off, none⟩))).run Try.prog w) :=
  run_ldRow Try.underlying89 rfl Evt.size' b off w
theorem Evt.store (b off : Nat) (s : Evt) (w : World) : (stRow 89 (.pointer (some ⟨b, off, none⟩)) (.agg s.arr)).run Try.prog w = onPut ((row? w b off 22).isSome && free? w b) (.ok () (putRow w b off s.arr)) ((stRow' 89 (.pointer (some ⟨b, off, none⟩)) (.agg s.arr)).run Try.prog w) :=
  run_stRow Evt.size' b off _ w s.arr_size s.arr_one
theorem Evt.alloc (w : World) (v : Value) : (alRow 89 true v).run Try.prog w = .ok (.pointer (some ⟨w.heap.size, 0, none⟩)) (w.alloc (.cells Evt.zero.arr 89)) :=
  run_alRow (z := .agg Evt.zero.arr) (zero_of_info Evt.info) w v
theorem Evt.fields : (Try.prog.fieldsOf 89).toList.map (fun f => (f.name == "_", f.type, f.offset)) = [(false, 3, 0), (false, 3, 1), (false, 4, 2), (false, 44, 3)] := by kernel_rfl
theorem Evt.under : Try.prog.underlying 89 = some (.struct (Try.prog.fieldsOf 89)) := by kernel_rfl
theorem Evt.eq_ (d : Nat) (a b : Evt) (w : World) : (Op.equalIn (d + 5) 89 (.agg a.arr) (.agg b.arr)).run Try.prog w = .ok (a.beq b) w := by
  have h := run_eq_struct Evt.under (by kernel_rfl) Evt.fields (EqFs.cons (EqF.int (d := (d + 3)) Try.underlying3 (Evt.arr_client a) (Evt.arr_client b)) (EqFs.cons (EqF.int (d := (d + 3)) Try.underlying3 (Evt.arr_index a) (Evt.arr_index b)) (EqFs.cons (EqF.bool (d := (d + 3)) Try.underlying4 (Evt.arr_done a) (Evt.arr_done b)) (EqFs.cons (EqF.agg Try.underlying44 rfl (by kernel_rfl) (Evt.row_ans a) (Evt.row_ans b) (Ans.eq_ d _ _)) EqFs.nil)))) w
  exact h.trans (by simp [Evt.beq, Bool.and_assoc])
theorem Evt.eqG : Try.prog.eqGuardType Try.prog.depth 89 = false := by kernel_rfl
theorem Evt.eql (a b : Evt) (w : World) : (binOp .eql 89 (.agg a.arr) (.agg b.arr)).run Try.prog w = .ok (.bool (decide (a = b))) w := by
  rw [run_eql_struct]; rw [show (10000 : Nat) = 9995 + 5 from rfl, Evt.eq_, Evt.beq_dec]; rfl
theorem Evt.neq (a b : Evt) (w : World) : (binOp .neq 89 (.agg a.arr) (.agg b.arr)).run Try.prog w = .ok (.bool (!decide (a = b))) w := by
  rw [run_neq_struct]; rw [show (10000 : Nat) = 9995 + 5 from rfl, Evt.eq_, Evt.beq_dec]; rfl
def Evt.place : Nat → Option (Nat × Nat)
  | 0 => some (0, 1)
  | 1 => some (1, 1)
  | 2 => some (2, 1)
  | 3 => some (3, 19)
  | _ => none
theorem Evt.places : (Try.prog.fieldsOf 89).toList.mapM (fun f => (Try.prog.info? f.type).map fun i => (f.offset, i.size)) = some [(0, 1), (1, 1), (2, 1), (3, 19)] := by kernel_rfl
theorem Evt.build (ps : List (Nat × Value)) (w : World) : (bdRow 89 ps.toArray).run Try.prog w = onRow (fillS Evt.place Evt.zero.arr ps) w ((bdRow' 89 ps.toArray).run Try.prog w) :=
  run_bdRow Evt.under (zero_of_info Evt.info) Evt.places (fun i => by match i with | 0 => rfl | 1 => rfl | 2 => rfl | 3 => rfl | n + 4 => rfl) ps w
theorem Evt.place0 : Evt.place 0 = some (0, 1) := rfl
theorem Evt.place1 : Evt.place 1 = some (1, 1) := rfl
theorem Evt.place2 : Evt.place 2 = some (2, 1) := rfl
theorem Evt.place3 : Evt.place 3 = some (3, 19) := rfl
attribute [go_sem ↓] Evt.ld Evt.st Evt.al Evt.bd Evt.eql Evt.neq
attribute [go_sem] Evt.arr_size Evt.arr_one Evt.row Evt.put Evt.arr_client Evt.get_client Evt.put_client Evt.set_client Evt.arr_index Evt.get_index Evt.put_index Evt.set_index Evt.arr_done Evt.get_done Evt.put_done Evt.set_done Evt.row_ans Evt.put_ans Evt.zero_client Evt.zero_index Evt.zero_done Evt.zero_ans Evt.place0 Evt.place1 Evt.place2 Evt.place3 Evt.load Evt.store Evt.alloc Evt.build Evt.eqG
theorem Evt.enc : EncOk Evt.arr 22 := ⟨Evt.arr_size, Evt.arr_one, by omega⟩


/-! ### readings -/
def Evt.av (a : Evt) : AV := .agg 22 [intA a.client, intA a.index, boolA a.done, a.ans.av]
section
variable {U : Uns} {w : World} {B : Blk} {H : Hp}
theorem Evt.rd {m : Evt} {c : List Value} : Rd U w m.av B H c ↔ c = m.arr.toList := by
  refine rd_agg (by have := m.arr_size; simpa using this) ((rds_cons (fun c => rd_v rfl) fun c => rds_cons (fun c => rd_v rfl) fun c => rds_cons (fun c => rd_v rfl) fun c => rds_cons (fun c => Ans.rd) fun c => rds_nil).trans ?_)
  rw [Evt.arr_def]; simp [cat_list, cel_list]
end
def dEvt : DT Evt := ⟨89, 22, Evt.av, Evt.arr, Evt.rd, fun _ => rfl, Evt.enc⟩
theorem zero_Evt : ZeroOk Try.prog 89 Evt.zero.av := zero_of Evt.info fun U w => Evt.rd.2 rfl
def evtsA (l : List Evt) : AV := .sl none 22 (l.map Evt.av)
end Go.Proofs.Ytphojngdgmnpaaa

namespace Go.Proofs.Ytphojngdgmnpaaa
open Go Go.RowKit
set_option linter.unusedVariables false
set_option linter.unusedSimpArgs false
set_option maxRecDepth 100000
set_option linter.unusedSectionVars false
/-- may that be the answer to an operation? -/
def answerC (o : Opn) (a : Ans) : Bool :=
  if o.kind < 1 ∨ 4 < o.kind ∨ decide (a.code = 2) ≠ large o then false
  else if a.code ≠ 0 ∧ a.code ≠ 2 ∧ (a.code ≠ 3 ∨ o.kind = 4) then false
  else if a.found = true ∧ (o.kind ≠ 4 ∨ a.code ≠ 0) then false
  else a.val.ok && (a.found || decide (a.val = Vl.zero))
def hOpAt (ops : List (List Opn)) (c k : Nat) : Opn := (ops.getD c []).getD k Opn.zero
/-- are these events a history of those operations? -/
def checkGo (ops : List (List Opn)) : List Evt → List Nat → List Nat → Bool
  | [], _, _ => true
  | e :: es, b, d =>
    if e.client < 0 ∨ (ops.length : Int) ≤ e.client then false
    else
      let c := e.client.toNat
      let k := if e.done = true then d.getD c 0 else b.getD c 0
      if e.index ≠ (k : Int) ∨ (ops.getD c []).length ≤ k then false
      else if e.done = true then
        if b.getD c 0 ≤ d.getD c 0 ∨ answerC (hOpAt ops c k) e.ans = false then false
        else checkGo ops es b (d.set c (d.getD c 0 + 1))
      else if d.getD c 0 ≠ b.getD c 0 ∨ e.ans ≠ Ans.zero ∨ (hOpAt ops c k).kind < 1 ∨ 4 < (hOpAt ops c k).kind then false
      else checkGo ops es (b.set c (b.getD c 0 + 1)) d
def checkC (ev : List Evt) (ops : List (List Opn)) : Bool := checkGo ops ev (List.replicate ops.length 0) (List.replicate ops.length 0)
def opsLA (ops : List (List Opn)) : AV := .sl none 1 (ops.map opsA)
/-! ### rows of counts -/
section
variable {E : Env} {nt : Nat} {ops : Array Oper} {T : Nat → Option AV} {H : Hp} {d : Option Nat} {ty : TypeId} {pos : String} {af : Array Edge} {gd : Option (Nat × Bool)}
theorem o_idxE {α : Type} {f : α → AV} {x ix : Operand} {t e : TypeId} {es bytes : Nat} {ea : Bool} {tok : Option Nat} {xs : List α} {y : α} {k : IntKind} {i : Nat} (hl : i < xs.length) (he : xs[i] = y) (hd : dOk nt d = true) (hs : tabT.ti t = some (.sl e es bytes ea)) (hx : evalO T x = some (.sl tok es (xs.map f))) (hi : evalO T ix = some (.v (.int k (i : Nat)))) :
    OpOK Try.prog E nt ops ⟨d, .indexAddr t x ix, ty, pos, af, gd⟩ T H [] ⟨.ref (f y), []⟩ := by
  subst he
  exact o_idx hd hs hx hi hl
theorem o_idxA {α : Type} {f : α → AV} {x ix : Operand} {t e : TypeId} {es bytes : Nat} {ea : Bool} {tok : Option Nat} {xs : List α} {y : α} {k : IntKind} {i : Nat} (hd : dOk nt d = true) (hs : tabT.ti t = some (.sl e es bytes ea)) (hx : evalO T x = some (.sl tok es (xs.map f))) (hi : evalO T ix = some (.v (.int k (i : Nat)))) (hl : i < xs.length) (he : xs[i] = y) :
    OpOK Try.prog E nt ops ⟨d, .indexAddr t x ix, ty, pos, af, gd⟩ T H [] ⟨.ref (f y), []⟩ := o_idxE hl he hd hs hx hi
theorem o_remA {t t' : TypeId} {x y : Operand} {a b k : Nat} {m : Int} (hd : dOk nt d = true) (hx : evalO T x = some (.v (.int .i64 (a : Nat)))) (hy : evalO T y = some (.v (.int .i64 m))) (hm : natOf m = some b) (hk : a % b = k) (hb : 0 < b) : OpOK Try.prog E nt ops ⟨d, .binOp .rem t x y t', ty, pos, af, gd⟩ T H [] ⟨.v (.int .i64 ((k : Nat) : Int)), []⟩ := by
  have := natOf_eq hm; subst this
  have := o_rem (E := E) (ops := ops) (H := H) (ty := ty) (pos := pos) (af := af) (gd := gd) (t := t) (t' := t') hd hx hy (by omega)
  rwa [show ((a : Nat) : Int) % ((b : Nat) : Int) = ((k : Nat) : Int) from by rw [← hk]; exact (Int.natCast_emod a b).symm] at this
theorem o_quo8 {t t' : TypeId} {x y : Operand} {a : Int} (hd : dOk nt d = true) (hx : evalO T x = some (.v (.int .i64 a))) (hy : evalO T y = some (.v (.int .i64 8))) (h : -9223372036854775808 ≤ a ∧ a ≤ 9223372036854775807) : OpOK Try.prog E nt ops ⟨d, .binOp .quo t x y t', ty, pos, af, gd⟩ T H [] ⟨.v (.int .i64 (a.tdiv 8)), []⟩ := by
  refine ok_quo hd hx hy (by omega) ?_
  have h1 : a.tdiv 8 = if 0 ≤ a then a / 8 else -((-a) / 8) := by
    split
    · rename_i h0
      exact Int.tdiv_eq_ediv_of_nonneg h0
    · rename_i h0
      have : a = -(-a) := by omega
      rw [this, Int.neg_tdiv, Int.tdiv_eq_ediv_of_nonneg (by omega)]
      simp
  rw [IntKind.wrap_i64, h1]
  split <;> omega
theorem on_idx {x ix : Operand} {t e : TypeId} {es bytes : Nat} {ea : Bool} {g len : Nat} {f : Nat → AV} {xs : List Nat} {k : IntKind} {n : Int} {i : Nat} (hd : dOk nt d = true) (hs : tabT.ti t = some (.sl e es bytes ea)) (hx : evalO T x = some (.own g es len .row)) (hg : H g = some (.own e es (xs.map f))) (hi : evalO T ix = some (.v (.int k n))) (hn : natOf n = some i)
    (hl : len = xs.length) (hlt : i < len) : OpOK Try.prog E nt ops ⟨d, .indexAddr t x ix, ty, pos, af, gd⟩ T H [g] ⟨.own g es len (.at (i * es) [i]), []⟩ := by
  subst hl
  exact oo_idx hd hs hx hg hi hn hlt
theorem on_ld {x : Operand} {t e : TypeId} {g len i : Nat} {xs : List Nat} (hd : dOk nt d = true) (hx : evalO T x = some (.own g 1 len (.at (i * 1) [i]))) (hg : H g = some (.own e 1 (xs.map natA))) (hl : len = xs.length) (hlt : i < xs.length) (hs : tabT.sa t = some (false, 1)) :
    OpOK Try.prog E nt ops ⟨d, .load t x, ty, pos, af, gd⟩ T H [g] ⟨natA xs[i], []⟩ := by
  subst hl
  exact oo_load hd hx hg (by omega) (by simp [subA, hlt]) (by simp [offA]) hs
theorem on_st {x y : Operand} {t e : TypeId} {g len i : Nat} {b : Nat} {xs : List Nat} (hx : evalO T x = some (.own g 1 len (.at (i * 1) [i]))) (hy : evalO T y = some (natA b)) (hg : H g = some (.own e 1 (xs.map natA))) (hl : len = xs.length) (hlt : i < xs.length) (hs : tabT.sa t = some (false, 1)) :
    OpOK Try.prog E nt ops ⟨none, .store t x y, ty, pos, af, gd⟩ T H [g] ⟨.tup [], [(g, .own e 1 ((xs.set i b).map natA))]⟩ := by
  subst hl
  exact oo_store hx hy hg (by omega) (old := natA xs[i]) (by simp [subA, hlt]) (by simp [offA]) (by simp [setA, hlt, List.map_set, natA, intA, dataA]) hs rfl rfl
theorem on_make {t e : TypeId} {es bytes : Nat} {ea : Bool} {x y : Operand} {k k' : IntKind} {n : Nat} {g : Nat} {m m' : Int} (hd : dOk nt (some g) = true) (hs : tabT.ti t = some (.sl e (es + 1) bytes ea)) (hz : zeroT e = some (natA 0)) (hx : evalO T x = some (.v (.int k m))) (hy : evalO T y = some (.v (.int k' m'))) (hm : natOf m = some n) (hm' : natOf m' = some n) (hg : H g = none) (hb : bytes * n ≤ 140737488355328) (hn : n ≤ 9223372036854775807) :
    OpOK Try.prog E nt ops ⟨some g, .makeSlice t x y, ty, pos, af, gd⟩ T H [] ⟨.own g (es + 1) n .row, [(g, .own e (es + 1) ((List.replicate n 0).map natA))]⟩ := by
  have := natOf_eq hm; subst this
  have := natOf_eq hm'; subst this
  have h := ok_make_own (E := E) (ops := ops) (ty := ty) (pos := pos) (af := af) (gd := gd) hd hs hz hx hy hg hb hn
  rw [List.map_replicate]
  exact h
end
attribute [local irreducible] OpOK AWops AW CondB Go2 AFn thenA inBlockA noGotoA orderOk wantedA
set_option maxRecDepth 100000 in
set_option maxHeartbeats 8000000 in
theorem a_refanswer (o : Opn) (a : Ans) : AFn Try.prog 57 [o.av, a.av] (boolA (answerC o a)) := by
  have hnt : (!true) = false := rfl
  have hnf : (!false) = true := rfl
  have cl := a_ref23large o
  have cv := a_refvlcheck a.val
  by_cases k1 : o.kind < 1
  · rw [show answerC o a = false by simp [answerC, k1]]
    refine AFn_intro Try.func57 rfl Try.ntmps57 rfl (by simp) [_] rfl fun E hE => ?_
    have d1 := acall Try.func27 (cl) (by decide +kernel) (by decide +kernel)
    refine wSS ?_
    exact fin ⟨res_of rfl rfl rfl, trivial⟩
  by_cases k2 : 4 < o.kind
  · rw [show answerC o a = false by simp [answerC, k2]]
    refine AFn_intro Try.func57 rfl Try.ntmps57 rfl (by simp) [_] rfl fun E hE => ?_
    have d1 := acall Try.func27 (cl) (by decide +kernel) (by decide +kernel)
    refine wSS ?_
    exact fin ⟨res_of rfl rfl rfl, trivial⟩
  by_cases k3 : decide (a.code = 2) ≠ large o
  · rw [show answerC o a = false by unfold answerC; rw [if_pos (.inr (.inr k3))]]
    refine AFn_intro Try.func57 rfl Try.ntmps57 rfl (by simp) [_] rfl fun E hE => ?_
    have d1 := acall Try.func27 (cl) (by decide +kernel) (by decide +kernel)
    refine wSS ?_
    exact fin ⟨res_of rfl rfl rfl, trivial⟩
  have e0 : answerC o a = if a.code ≠ 0 ∧ a.code ≠ 2 ∧ (a.code ≠ 3 ∨ o.kind = 4) then false
      else if a.found = true ∧ (o.kind ≠ 4 ∨ a.code ≠ 0) then false
      else a.val.ok && (a.found || decide (a.val = Vl.zero)) := by unfold answerC; rw [if_neg ((fun h => h.elim (fun h => k1 h) (fun h => h.elim (fun h => k2 h) (fun h => k3 h))))]
  rw [e0]
  clear e0
  have rest : (a.code = 0 ∨ a.code = 2 ∨ (a.code = 3 ∧ o.kind ≠ 4)) → (a.found = false ∨ (a.found = true ∧ o.kind = 4 ∧ a.code = 0)) → AFn Try.prog 57 [o.av, a.av] (boolA (a.val.ok && (a.found || decide (a.val = Vl.zero)))) := by
    intro q1 q2
    generalize a.val.ok = vk at cv
    rcases q2 with hf | ⟨hf, q2, q3⟩
    · rw [hf]
      rcases q1 with q1 | q1 | ⟨q1, q4⟩
      all_goals
        cases vk
        all_goals
          refine AFn_intro Try.func57 rfl Try.ntmps57 rfl (by simp) [_] rfl fun E hE => ?_
          have d1 := acall Try.func27 (cl) (by decide +kernel) (by decide +kernel)
          have d2 := acall Try.func59 (cv) (by decide +kernel) (by decide +kernel)
          refine wSS ?_
          exact fin ⟨res_of rfl rfl rfl, trivial⟩
    · rw [hf]
      cases vk
      all_goals
        refine AFn_intro Try.func57 rfl Try.ntmps57 rfl (by simp) [_] rfl fun E hE => ?_
        have d1 := acall Try.func27 (cl) (by decide +kernel) (by decide +kernel)
        have d2 := acall Try.func59 (cv) (by decide +kernel) (by decide +kernel)
        refine wSS ?_
        exact fin ⟨res_of rfl rfl rfl, trivial⟩
  have noC : a.code ≠ 0 → a.code ≠ 2 → (a.code ≠ 3 ∨ o.kind = 4) → AFn Try.prog 57 [o.av, a.av] (boolA false) := by
    intro q1 q2 q3
    by_cases q4 : a.code = 3
    · have q5 : o.kind = 4 := by omega
      refine AFn_intro Try.func57 rfl Try.ntmps57 rfl (by simp) [_] rfl fun E hE => ?_
      have d1 := acall Try.func27 (cl) (by decide +kernel) (by decide +kernel)
      refine wSS ?_
      exact fin ⟨res_of rfl rfl rfl, trivial⟩
    · refine AFn_intro Try.func57 rfl Try.ntmps57 rfl (by simp) [_] rfl fun E hE => ?_
      have d1 := acall Try.func27 (cl) (by decide +kernel) (by decide +kernel)
      refine wSS ?_
      exact fin ⟨res_of rfl rfl rfl, trivial⟩
  have noF : (a.code = 0 ∨ a.code = 2 ∨ (a.code = 3 ∧ o.kind ≠ 4)) → a.found = true → (o.kind ≠ 4 ∨ a.code ≠ 0) → AFn Try.prog 57 [o.av, a.av] (boolA false) := by
    intro q1 q2 q3
    rcases q1 with q1 | q1 | ⟨q1, q4⟩
    all_goals
      by_cases q5 : o.kind = 4
      all_goals first
        | omega
        | (refine AFn_intro Try.func57 rfl Try.ntmps57 rfl (by simp) [_] rfl fun E hE => ?_
           have d1 := acall Try.func27 (cl) (by decide +kernel) (by decide +kernel)
           refine wSS ?_
           exact fin ⟨res_of rfl rfl rfl, trivial⟩)
  by_cases k4 : a.code ≠ 0 ∧ a.code ≠ 2 ∧ (a.code ≠ 3 ∨ o.kind = 4)
  · rw [if_pos k4]
    exact noC k4.1 k4.2.1 k4.2.2
  · rw [if_neg k4]
    have k4' : a.code = 0 ∨ a.code = 2 ∨ (a.code = 3 ∧ o.kind ≠ 4) := by
      by_cases h0 : a.code = 0
      · exact .inl h0
      by_cases h2 : a.code = 2
      · exact .inr (.inl h2)
      refine .inr (.inr ⟨?_, fun h => k4 ⟨h0, h2, .inr h⟩⟩)
      by_cases h3 : a.code = 3
      · exact h3
      · exact absurd ⟨h0, h2, .inl h3⟩ k4
    by_cases k5 : a.found = true ∧ (o.kind ≠ 4 ∨ a.code ≠ 0)
    · rw [if_pos k5]
      exact noF k4' k5.1 k5.2
    · rw [if_neg k5]
      refine rest k4' ?_
      cases hf : a.found
      · exact .inl rfl
      · refine .inr ⟨rfl, ?_, ?_⟩
        · by_cases h : o.kind = 4
          · exact h
          · exact absurd ⟨hf, .inl h⟩ k5
        · by_cases h : a.code = 0
          · exact h
          · exact absurd ⟨hf, .inr h⟩ k5
end Go.Proofs.Ytphojngdgmnpaaa

namespace Go.Proofs.Ytphojngdgmnpaaa
open Go Go.RowKit
set_option linter.unusedVariables false
set_option linter.unusedSimpArgs false
set_option maxRecDepth 100000
set_option linter.unusedSectionVars false
theorem wON {Q R : Prop} (k : R) (h : Hid R → Q := by intro kHid; (repeat (first | (first | refine Wend _ ?_ | refine AW_seq ?_ | refine AW_reg ?_ | refine AW_drw mixed ?_ | refine AW_block ?_ | refine AW_scope ?_ | refine thenA_n ?_ | refine blockA_n ?_ | refine blockA_h ?_ | refine scopeA_n ?_ | refine thenA_r ?_ | refine blockA_r ?_ | refine scopeA_r ?_ | refine thenA_e ?_ | refine scopeA_e ?_ | refine blockA_e rfl ?_ | refine AW_exit ?_ | refine AW_ret ?_ | refine AW_skip ?_ | refine AW_c rfl ?_ | with_reducible refine cb_t ?_ | with_reducible refine cb_f ?_ | with_reducible refine cb_yes (by first | assumption | omega) ?_ | with_reducible refine cb_no (by first | assumption | omega) ?_ | refine And.intro (by decide +kernel) ?_) | (first | (apply Wb; (focus (first | exact on_make rfl rfl rfl rfl rfl rfl rfl rfl (by omega) (by omega))); (focus (first | exact want_n | exact want_g rfl (by with_reducible rfl)))) | (apply Wv; (focus (first | exact on_idx rfl rfl rfl rfl rfl rfl (by first | rfl | assumption | omega | (simp; done) | (simp; omega)) (by first | rfl | assumption | omega | (simp; done) | (simp; omega)) | exact on_ld rfl rfl rfl (by first | rfl | assumption | omega | (simp; done) | (simp; omega)) (by first | rfl | assumption | omega | (simp; done) | (simp; omega)) rfl)); (focus (first | exact want_n | exact want_g rfl (by with_reducible rfl)))) | (apply Ws; (focus (exact on_st rfl rfl rfl (by first | rfl | assumption | omega | (simp; done) | (simp; omega)) (by first | rfl | assumption | omega | (simp; done) | (simp; omega)) rfl)); (focus (first | exact want_n | exact want_g rfl (by with_reducible rfl)))) | (first | (apply Wv; (focus (first | exact step_ok rfl rfl | exact o_idx rfl rfl rfl rfl (by first | assumption | omega | decide) | exact o_idx3 rfl rfl rfl rfl (by first | assumption | omega | decide) | exact o_idx2 rfl rfl rfl rfl rfl (by first | assumption | omega | decide) | exact o_idxr rfl rfl rfl rfl rfl rfl | exact o_lenm rfl rfl rfl | exact o_len rfl rfl rfl | exact o_len0 rfl rfl rfl | exact o_lens rfl rfl rfl | exact o_lent rfl rfl | exact o_add1 rfl rfl rfl (by omega) | exact o_addn rfl rfl rfl (by omega) | exact o_add rfl rfl rfl (by omega) | exact o_sub1 rfl rfl rfl (by omega) | exact o_sub rfl rfl rfl (by omega) | exact o_mul rfl rfl rfl (by omega) | exact o_rem rfl rfl rfl (by omega) | exact ok_rem rfl rfl rfl (by decide) rfl | exact o_eqKey rfl rfl rfl | exact o_neKey rfl rfl rfl | exact o_eqVl rfl rfl rfl | exact o_neVl rfl rfl rfl | exact o_eqEnt rfl rfl rfl | exact o_neEnt rfl rfl rfl | exact o_eqMsg rfl rfl rfl | exact o_neMsg rfl rfl rfl | exact o_acall rfl rfl rfl rfl (by assumption) | exact o_minn rfl rfl rfl | exact o_cutl rfl rfl rfl rfl (by omega) | exact o_cuth rfl rfl rfl rfl (by omega) | exact o_cutl3 rfl rfl rfl rfl (by omega) | exact o_cuth3 rfl rfl rfl rfl (by omega) | exact o_cutl2 rfl rfl rfl rfl rfl (by omega) | exact o_cuth2 rfl rfl rfl rfl rfl (by omega) | exact o_cutlh2 rfl rfl rfl rfl rfl rfl rfl (by omega) (by omega) | exact o_bld zero_Opn rfl rfl rfl rfl rfl rfl rfl | exact o_bld zero_Cal rfl rfl rfl rfl rfl rfl rfl | exact o_bld zero_state rfl rfl rfl rfl rfl rfl rfl | exact o_bld zero_search rfl rfl rfl rfl rfl rfl rfl | exact o_nilcr rfl rfl | exact o_nilcp rfl rfl | exact o_eqbar rfl rfl rfl (by simp) (by simp) | exact o_ldbar rfl rfl (by simp) rfl (by first | omega | (simp; omega)) rfl | exact o_idxpn rfl rfl rfl rfl (by omega) | exact o_idxvn rfl rfl rfl rfl (by omega) (by assumption) rfl | exact o_idxrn rfl rfl rfl rfl (by omega) (by assumption) | exact o_cutarr rfl rfl rfl rfl | exact o_mkfn rfl rfl rfl | exact o_callv rfl rfl rfl rfl rfl rfl (by assumption) | exact o_bld zero_Ans rfl rfl rfl rfl rfl rfl rfl | exact o_eqAns rfl rfl rfl | exact o_neAns rfl rfl rfl | exact e_bld rfl rfl rfl | exact e_bldk rfl rfl | exact z_bld0 rfl rfl rfl rfl rfl | exact z_bld rfl rfl rfl rfl rfl rfl rfl | exact o_addu rfl rfl rfl | exact z_blda rfl rfl rfl rfl rfl rfl rfl rfl rfl | exact o_idxa rfl rfl rfl rfl rfl rfl | exact o_idxra rfl rfl rfl rfl rfl rfl rfl | exact o_quo2 rfl rfl rfl (by omega) | exact o_quo rfl rfl rfl (by omega))); (focus (first | exact want_n | exact want_g rfl (by with_reducible rfl)))) | (apply Wb; (focus (first | exact o_box rfl rfl rfl rfl | exact o_app rfl rfl rfl rfl rfl (by first | exact o_many rfl | exact o_one _ _ rfl) (by first | omega | (simp; omega) | simp) (by first | omega | (simp; omega) | simp) | exact o_appn rfl rfl rfl rfl rfl (by first | exact o_many rfl | exact o_one _ _ rfl) (by first | omega | (simp; omega) | simp) (by first | omega | (simp; omega) | simp) | exact o_app1 rfl rfl rfl rfl rfl (by first | exact o_many rfl | exact o_one _ _ rfl) (by exact rfl) (by first | omega | (simp; omega) | simp) (by first | omega | (simp; omega) | simp) | exact o_app0 rfl rfl rfl rfl rfl (by first | exact o_many rfl | exact o_one _ _ rfl) (by first | omega | (simp; omega) | simp) (by first | omega | (simp; omega) | simp) | exact o_bsl0 rfl rfl rfl | exact z_bsll rfl rfl rfl rfl rfl rfl rfl rfl rfl | exact z_alloc rfl rfl rfl | exact o_alloc zero_Opn rfl rfl | exact o_alloc zero_Cal rfl rfl | exact o_alloc zero_state rfl rfl | exact o_alloc zero_b14 rfl rfl | exact o_cpents rfl rfl rfl rfl rfl rfl (by omega) | exact o_alloc zero_Ans rfl rfl | exact o_bsll zero_Ans rfl rfl rfl rfl rfl rfl rfl rfl | exact o_bsll zero_Opn rfl rfl rfl rfl rfl rfl rfl rfl)); (focus (first | exact want_n | exact want_g rfl (by with_reducible rfl)))) | (apply Ws; (focus (first | exact o_stin rfl (by simp) rfl rfl (by first | omega | (simp; omega)) rfl | exact o_stbar rfl (by simp) rfl rfl (by first | omega | (simp; omega)) rfl | exact ok_store tabT (d := none) rfl rfl rfl rfl rfl rfl rfl rfl rfl rfl)); (focus (first | exact want_n | exact want_g rfl (by with_reducible rfl)))) | (refine Wskip (by first | exact want_f rfl (by with_reducible exact b_nt) | exact want_f rfl (by with_reducible exact b_nf) | exact want_t rfl) rfl ?_) | refine Wgt rfl rfl (by first | assumption | omega | exact rfl) ?_ | refine Wgf rfl rfl (by first | assumption | omega | exact rfl) ?_ | (refine Wgb rfl rfl (by with_reducible assumption) ?_) | (refine cb_is _ (by assumption) ?_))))); exact kHid.out) : Q := h ⟨k⟩
theorem wOE {Q R : Prop} (k : R) (h : Hid R → Q := by intro kHid; (repeat (first | (first | refine Wend _ ?_ | refine AW_seq ?_ | refine AW_reg ?_ | refine AW_drw mixed ?_ | refine AW_block ?_ | refine AW_scope ?_ | refine thenA_n ?_ | refine blockA_n ?_ | refine blockA_h ?_ | refine scopeA_n ?_ | refine thenA_r ?_ | refine blockA_r ?_ | refine scopeA_r ?_ | refine thenA_e ?_ | refine scopeA_e ?_ | refine blockA_e rfl ?_ | refine AW_exit ?_ | refine AW_ret ?_ | refine AW_skip ?_ | refine AW_c rfl ?_ | with_reducible refine cb_t ?_ | with_reducible refine cb_f ?_ | with_reducible refine cb_yes (by first | assumption | omega) ?_ | with_reducible refine cb_no (by first | assumption | omega) ?_ | refine And.intro (by decide +kernel) ?_) | (first | (apply Wv; (focus (first | exact o_idxA rfl rfl rfl rfl (by with_reducible assumption) (by with_reducible assumption) | exact o_remA rfl rfl rfl rfl (by assumption) (by omega) | exact o_idxs rfl rfl rfl rfl (by omega) | exact o_quo8 rfl rfl rfl (by with_reducible assumption) | exact o_bld zero_Evt rfl rfl rfl rfl rfl rfl rfl)); (focus (first | exact want_n | exact want_g rfl (by with_reducible rfl)))) | (apply Wb; (focus (first | exact o_alloc zero_Evt rfl rfl | exact o_bsll zero_Evt rfl rfl rfl rfl rfl rfl rfl rfl | exact o_bsll zero_Cal rfl rfl rfl rfl rfl rfl rfl rfl | exact o_bsll zero_Opn rfl rfl rfl rfl rfl rfl rfl rfl)); (focus (first | exact want_n | exact want_g rfl (by with_reducible rfl)))) | (first | (apply Wb; (focus (first | exact on_make rfl rfl rfl rfl rfl rfl rfl rfl (by omega) (by omega))); (focus (first | exact want_n | exact want_g rfl (by with_reducible rfl)))) | (apply Wv; (focus (first | exact on_idx rfl rfl rfl rfl rfl rfl (by first | rfl | assumption | omega | (simp; done) | (simp; omega)) (by first | rfl | assumption | omega | (simp; done) | (simp; omega)) | exact on_ld rfl rfl rfl (by first | rfl | assumption | omega | (simp; done) | (simp; omega)) (by first | rfl | assumption | omega | (simp; done) | (simp; omega)) rfl)); (focus (first | exact want_n | exact want_g rfl (by with_reducible rfl)))) | (apply Ws; (focus (exact on_st rfl rfl rfl (by first | rfl | assumption | omega | (simp; done) | (simp; omega)) (by first | rfl | assumption | omega | (simp; done) | (simp; omega)) rfl)); (focus (first | exact want_n | exact want_g rfl (by with_reducible rfl)))) | (first | (apply Wv; (focus (first | exact step_ok rfl rfl | exact o_idx rfl rfl rfl rfl (by first | assumption | omega | decide) | exact o_idx3 rfl rfl rfl rfl (by first | assumption | omega | decide) | exact o_idx2 rfl rfl rfl rfl rfl (by first | assumption | omega | decide) | exact o_idxr rfl rfl rfl rfl rfl rfl | exact o_lenm rfl rfl rfl | exact o_len rfl rfl rfl | exact o_len0 rfl rfl rfl | exact o_lens rfl rfl rfl | exact o_lent rfl rfl | exact o_add1 rfl rfl rfl (by omega) | exact o_addn rfl rfl rfl (by omega) | exact o_add rfl rfl rfl (by omega) | exact o_sub1 rfl rfl rfl (by omega) | exact o_sub rfl rfl rfl (by omega) | exact o_mul rfl rfl rfl (by omega) | exact o_rem rfl rfl rfl (by omega) | exact ok_rem rfl rfl rfl (by decide) rfl | exact o_eqKey rfl rfl rfl | exact o_neKey rfl rfl rfl | exact o_eqVl rfl rfl rfl | exact o_neVl rfl rfl rfl | exact o_eqEnt rfl rfl rfl | exact o_neEnt rfl rfl rfl | exact o_eqMsg rfl rfl rfl | exact o_neMsg rfl rfl rfl | exact o_acall rfl rfl rfl rfl (by assumption) | exact o_minn rfl rfl rfl | exact o_cutl rfl rfl rfl rfl (by omega) | exact o_cuth rfl rfl rfl rfl (by omega) | exact o_cutl3 rfl rfl rfl rfl (by omega) | exact o_cuth3 rfl rfl rfl rfl (by omega) | exact o_cutl2 rfl rfl rfl rfl rfl (by omega) | exact o_cuth2 rfl rfl rfl rfl rfl (by omega) | exact o_cutlh2 rfl rfl rfl rfl rfl rfl rfl (by omega) (by omega) | exact o_bld zero_Opn rfl rfl rfl rfl rfl rfl rfl | exact o_bld zero_Cal rfl rfl rfl rfl rfl rfl rfl | exact o_bld zero_state rfl rfl rfl rfl rfl rfl rfl | exact o_bld zero_search rfl rfl rfl rfl rfl rfl rfl | exact o_nilcr rfl rfl | exact o_nilcp rfl rfl | exact o_eqbar rfl rfl rfl (by simp) (by simp) | exact o_ldbar rfl rfl (by simp) rfl (by first | omega | (simp; omega)) rfl | exact o_idxpn rfl rfl rfl rfl (by omega) | exact o_idxvn rfl rfl rfl rfl (by omega) (by assumption) rfl | exact o_idxrn rfl rfl rfl rfl (by omega) (by assumption) | exact o_cutarr rfl rfl rfl rfl | exact o_mkfn rfl rfl rfl | exact o_callv rfl rfl rfl rfl rfl rfl (by assumption) | exact o_bld zero_Ans rfl rfl rfl rfl rfl rfl rfl | exact o_eqAns rfl rfl rfl | exact o_neAns rfl rfl rfl | exact e_bld rfl rfl rfl | exact e_bldk rfl rfl | exact z_bld0 rfl rfl rfl rfl rfl | exact z_bld rfl rfl rfl rfl rfl rfl rfl | exact o_addu rfl rfl rfl | exact z_blda rfl rfl rfl rfl rfl rfl rfl rfl rfl | exact o_idxa rfl rfl rfl rfl rfl rfl | exact o_idxra rfl rfl rfl rfl rfl rfl rfl | exact o_quo2 rfl rfl rfl (by omega) | exact o_quo rfl rfl rfl (by omega))); (focus (first | exact want_n | exact want_g rfl (by with_reducible rfl)))) | (apply Wb; (focus (first | exact o_box rfl rfl rfl rfl | exact o_app rfl rfl rfl rfl rfl (by first | exact o_many rfl | exact o_one _ _ rfl) (by first | omega | (simp; omega) | simp) (by first | omega | (simp; omega) | simp) | exact o_appn rfl rfl rfl rfl rfl (by first | exact o_many rfl | exact o_one _ _ rfl) (by first | omega | (simp; omega) | simp) (by first | omega | (simp; omega) | simp) | exact o_app1 rfl rfl rfl rfl rfl (by first | exact o_many rfl | exact o_one _ _ rfl) (by exact rfl) (by first | omega | (simp; omega) | simp) (by first | omega | (simp; omega) | simp) | exact o_app0 rfl rfl rfl rfl rfl (by first | exact o_many rfl | exact o_one _ _ rfl) (by first | omega | (simp; omega) | simp) (by first | omega | (simp; omega) | simp) | exact o_bsl0 rfl rfl rfl | exact z_bsll rfl rfl rfl rfl rfl rfl rfl rfl rfl | exact z_alloc rfl rfl rfl | exact o_alloc zero_Opn rfl rfl | exact o_alloc zero_Cal rfl rfl | exact o_alloc zero_state rfl rfl | exact o_alloc zero_b14 rfl rfl | exact o_cpents rfl rfl rfl rfl rfl rfl (by omega) | exact o_alloc zero_Ans rfl rfl | exact o_bsll zero_Ans rfl rfl rfl rfl rfl rfl rfl rfl | exact o_bsll zero_Opn rfl rfl rfl rfl rfl rfl rfl rfl)); (focus (first | exact want_n | exact want_g rfl (by with_reducible rfl)))) | (apply Ws; (focus (first | exact o_stin rfl (by simp) rfl rfl (by first | omega | (simp; omega)) rfl | exact o_stbar rfl (by simp) rfl rfl (by first | omega | (simp; omega)) rfl | exact ok_store tabT (d := none) rfl rfl rfl rfl rfl rfl rfl rfl rfl rfl)); (focus (first | exact want_n | exact want_g rfl (by with_reducible rfl)))) | (refine Wskip (by first | exact want_f rfl (by with_reducible exact b_nt) | exact want_f rfl (by with_reducible exact b_nf) | exact want_t rfl) rfl ?_) | refine Wgt rfl rfl (by first | assumption | omega | exact rfl) ?_ | refine Wgf rfl rfl (by first | assumption | omega | exact rfl) ?_ | (refine Wgb rfl rfl (by with_reducible assumption) ?_) | (refine cb_is _ (by assumption) ?_)))))); exact kHid.out) : Q := h ⟨k⟩
theorem getD_get {α : Type} {l : List α} {i : Nat} {z : α} (h : i < l.length) : l.getD i z = l[i] := by
  rw [List.getD_eq_getElem?_getD, List.getElem?_eq_getElem h]; rfl
theorem hOpAt_get {ops : List (List Opn)} {c k : Nat} (hc : c < ops.length) (hk : k < (ops[c]).length) : hOpAt ops c k = (ops[c])[k] := by
  unfold hOpAt
  rw [getD_get hc, getD_get hk]
theorem set_bd {l : List Nat} {c v i : Nat} (h : ∀ x ∈ l, x ≤ i) (hv : v ≤ i) : ∀ x ∈ l.set c v, x ≤ i := fun x hx => by
  rcases List.mem_or_eq_of_mem_set hx with h1 | h1
  · exact h x h1
  · omega
attribute [local irreducible] OpOK AWops AW CondB Go2 AFn thenA inBlockA noGotoA orderOk wantedA
set_option maxRecDepth 100000 in
set_option maxHeartbeats 16000000 in
theorem a_hcheck (ev : List Evt) (ops : List (List Opn)) (hev : ev.length ≤ 1000000) (hops : ops.length ≤ 1000) : AFn Try.prog 41 [evtsA ev, opsLA ops] (boolA (checkC ev ops)) := by
  refine AFn_intro Try.func41 rfl Try.ntmps41 rfl (by simp) [_] rfl fun E hE => ?_
  have hnt : (!true) = false := rfl
  have hnf : (!false) = true := rfl
  refine wON ?_
  refine AW_loopI (fun x : Nat × List Nat × List Nat => ⟨[(0, evtsA ev), (1, opsLA ops), (5, .own 13 1 ops.length .row), (6, .own 16 1 ops.length .row), (7, intA (x.1 : Nat))], [(13, .own 3 1 (x.2.1.map natA)), (16, .own 3 1 (x.2.2.map natA))]⟩) (fun x => x.1 ≤ ev.length ∧ x.2.1.length = ops.length ∧ x.2.2.length = ops.length ∧ (∀ n ∈ x.2.1, n ≤ x.1) ∧ (∀ n ∈ x.2.2, n ≤ x.1) ∧ checkGo ops (ev.drop x.1) x.2.1 x.2.2 = checkC ev ops) (fun x => ev.length - x.1) (0, List.replicate ops.length 0, List.replicate ops.length 0) ⟨Nat.zero_le _, by simp, by simp, fun n h => by rw [(List.mem_replicate.1 h).2]; exact Nat.zero_le _, fun n h => by rw [(List.mem_replicate.1 h).2]; exact Nat.zero_le _, rfl⟩ (by (refine Go2.sub ⟨?_, ?_, ?_⟩ <;> repeat' (first | exact True.intro | rfl | apply And.intro))) (fun x hx => ?_)
  obtain ⟨i, b, d⟩ := x
  obtain ⟨hi, hbl, hdl, hbi, hdi, hF⟩ := hx
  dsimp only at hi hbl hdl hbi hdi hF ⊢
  by_cases c1 : i < ev.length
  · rw [List.drop_eq_getElem_cons c1] at hF
    rcases he : ev[i] with ⟨cl, ix, dn, an⟩
    rw [he] at hF
    refine wOE ?_
    by_cases c2 : cl < 0
    · rw [show checkC ev ops = false by rw [← hF]; unfold checkGo; rw [if_pos (.inl c2)]]
      refine wOE ?_
      exact fin ⟨res_of rfl rfl rfl, trivial⟩
    by_cases c3 : (ops.length : Int) ≤ cl
    · rw [show checkC ev ops = false by rw [← hF]; unfold checkGo; rw [if_pos (.inr c3)]]
      refine wOE ?_
      exact fin ⟨res_of rfl rfl rfl, trivial⟩
    obtain ⟨c, rfl⟩ : ∃ c : Nat, cl = (c : Int) := ⟨cl.toNat, by omega⟩
    have hcn : c < ops.length := by omega
    have hcb : c < b.length := by omega
    have hcd : c < d.length := by omega
    have hbc := hbi b[c] (List.getElem_mem hcb)
    have hdc := hdi d[c] (List.getElem_mem hcd)
    unfold checkGo at hF
    rw [if_neg (fun h => h.elim c2 c3)] at hF
    dsimp only at hF
    rw [Int.toNat_natCast, getD_get hcb, getD_get hcd, getD_get hcn] at hF
    have hln1 : ops.length = b.length := hbl.symm
    have hln2 : ops.length = d.length := hdl.symm
    refine wOE ?_
    cases dn
    · rw [if_neg (show ¬ false = true by simp)] at hF
      refine wOE ?_
      by_cases c4 : ix ≠ ((b[c] : Nat) : Int)
      · rw [show checkC ev ops = false by rw [← hF, if_pos (.inl c4)]]
        refine wOE ?_
        exact fin ⟨res_of rfl rfl rfl, trivial⟩
      have c4' : ix = ((b[c] : Nat) : Int) := by omega
      by_cases c5 : (ops[c]).length ≤ b[c]
      · have c5i : ((ops[c]).length : Int) ≤ (b[c] : Nat) := by omega
        rw [show checkC ev ops = false by rw [← hF, if_pos (.inr c5)]]
        refine wOE ?_
        exact fin ⟨res_of rfl rfl rfl, trivial⟩
      rw [if_neg (fun h => h.elim c4 c5), if_neg (show ¬ false = true by simp)] at hF
      have hkn : b[c] < (ops[c]).length := by omega
      have hop := hOpAt_get hcn hkn
      rw [hop] at hF
      obtain ⟨o, ho⟩ : ∃ o, (ops[c])[b[c]] = o := ⟨_, rfl⟩
      rw [ho] at hF
      refine wOE ?_
      by_cases c6 : d[c] ≠ b[c]
      · have c6i : ((d[c] : Nat) : Int) ≠ (b[c] : Nat) := by omega
        rw [show checkC ev ops = false by rw [← hF, if_pos (.inl c6)]]
        refine wOE ?_
        exact fin ⟨res_of rfl rfl rfl, trivial⟩
      have c6i : ¬ ((d[c] : Nat) : Int) ≠ (b[c] : Nat) := by omega
      refine wOE ?_
      by_cases c7 : an ≠ Ans.zero
      · rw [show checkC ev ops = false by rw [← hF, if_pos (.inr (.inl c7))]]
        refine wOE ?_
        exact fin ⟨res_of rfl rfl rfl, trivial⟩
      refine wOE ?_
      by_cases c8 : o.kind < 1
      · rw [show checkC ev ops = false by rw [← hF, if_pos (.inr (.inr (.inl c8)))]]
        refine wOE ?_
        exact fin ⟨res_of rfl rfl rfl, trivial⟩
      refine wOE ?_
      by_cases c9 : 4 < o.kind
      · rw [show checkC ev ops = false by rw [← hF, if_pos (.inr (.inr (.inr c9)))]]
        refine wOE ?_
        exact fin ⟨res_of rfl rfl rfl, trivial⟩
      rw [if_neg (fun h => h.elim c6 (fun h => h.elim c7 (fun h => h.elim c8 c9)))] at hF
      refine wOE ?_
      refine ⟨(i + 1, b.set c (b[c] + 1), d), ⟨c1, by simpa using hbl, hdl, set_bd (fun n h => Nat.le_succ_of_le (hbi n h)) (by omega), fun n h => Nat.le_succ_of_le (hdi n h), hF⟩, by show ev.length - (i + 1) < ev.length - i; omega, ?_⟩
      (refine Go2.sub ⟨?_, ?_, ?_⟩ <;> repeat' (first | exact True.intro | rfl | apply And.intro))
    · rw [if_pos (show true = true from rfl), if_pos (show true = true from rfl)] at hF
      refine wOE ?_
      by_cases c4 : ix ≠ ((d[c] : Nat) : Int)
      · rw [show checkC ev ops = false by rw [← hF, if_pos (.inl c4)]]
        refine wOE ?_
        exact fin ⟨res_of rfl rfl rfl, trivial⟩
      have c4' : ix = ((d[c] : Nat) : Int) := by omega
      by_cases c5 : (ops[c]).length ≤ d[c]
      · have c5i : ((ops[c]).length : Int) ≤ (d[c] : Nat) := by omega
        rw [show checkC ev ops = false by rw [← hF, if_pos (.inr c5)]]
        refine wOE ?_
        exact fin ⟨res_of rfl rfl rfl, trivial⟩
      rw [if_neg (fun h => h.elim c4 c5)] at hF
      have hkn : d[c] < (ops[c]).length := by omega
      have hop := hOpAt_get hcn hkn
      rw [hop] at hF
      obtain ⟨o, ho⟩ : ∃ o, (ops[c])[d[c]] = o := ⟨_, rfl⟩
      rw [ho] at hF
      have ca := a_refanswer o an
      refine wOE ?_
      by_cases c6 : b[c] ≤ d[c]
      · have c6i : ((b[c] : Nat) : Int) ≤ (d[c] : Nat) := by omega
        rw [show checkC ev ops = false by rw [← hF, if_pos (.inl c6)]]
        refine wOE ?_
        exact fin ⟨res_of rfl rfl rfl, trivial⟩
      have c6i : ¬ ((b[c] : Nat) : Int) ≤ (d[c] : Nat) := by omega
      cases c7 : answerC o an
      · rw [show checkC ev ops = false by rw [← hF, if_pos (.inr c7)]]
        rw [c7] at ca
        have d1 := acall Try.func57 (ca) (by decide +kernel) (by decide +kernel)
        refine wOE ?_
        exact fin ⟨res_of rfl rfl rfl, trivial⟩
      · rw [if_neg (fun h => h.elim c6 (fun h => by rw [c7] at h; cases h))] at hF
        rw [c7] at ca
        have d1 := acall Try.func57 (ca) (by decide +kernel) (by decide +kernel)
        refine wOE ?_
        refine ⟨(i + 1, b, d.set c (d[c] + 1)), ⟨c1, hbl, by simpa using hdl, fun n h => Nat.le_succ_of_le (hbi n h), set_bd (fun n h => Nat.le_succ_of_le (hdi n h)) (by omega), hF⟩, by show ev.length - (i + 1) < ev.length - i; omega, ?_⟩
        (refine Go2.sub ⟨?_, ?_, ?_⟩ <;> repeat' (first | exact True.intro | rfl | apply And.intro))
  · obtain rfl : i = ev.length := by omega
    rw [List.drop_length] at hF
    rw [show checkC ev ops = true by rw [← hF]; rfl]
    refine wON ?_
    exact fin ⟨res_of rfl rfl rfl, trivial⟩
end Go.Proofs.Ytphojngdgmnpaaa

namespace Go.Proofs.Ytphojngdgmnpaaa
open Go Go.RowKit
set_option linter.unusedVariables false
set_option linter.unusedSimpArgs false
set_option maxRecDepth 100000
set_option linter.unusedSectionVars false
/-- a call behind an event that tells an answer -/
def turnAt (e : Evt) (i : Nat) (c : Cal) : Cal := if c.client = e.client ∧ c.index = e.index then { c with to := (i : Int), ans := e.ans } else c
def callsHGo (ops : List (List Opn)) : Nat → List Evt → List Cal → List Cal
  | _, [], out => out
  | i, e :: es, out =>
    if e.done = false then callsHGo ops (i + 1) es (out ++ [⟨e.client, e.index, hOpAt ops e.client.toNat e.index.toNat, (i : Int), -1, Ans.zero⟩])
    else callsHGo ops (i + 1) es (out.map (turnAt e i))
/-- a history's calls; none, if it is none -/
def callsH (ev : List Evt) (ops : List (List Opn)) : List Cal := if checkC ev ops = true then callsHGo ops 0 ev [] else []
theorem callsHGo_len (ops : List (List Opn)) : ∀ (es : List Evt) (i : Nat) (out : List Cal), (callsHGo ops i es out).length ≤ out.length + es.length
  | [], i, out => by simp [callsHGo]
  | e :: es, i, out => by
    unfold callsHGo
    split
    · have := callsHGo_len ops es (i + 1) (out ++ [⟨e.client, e.index, hOpAt ops e.client.toNat e.index.toNat, (i : Int), -1, Ans.zero⟩])
      simp at this ⊢; omega
    · have := callsHGo_len ops es (i + 1) (out.map (turnAt e i))
      simp at this ⊢; omega
theorem callsH_len (ev : List Evt) (ops : List (List Opn)) : (callsH ev ops).length ≤ ev.length := by
  unfold callsH
  split
  · have := callsHGo_len ops ev 0 []
    simpa using this
  · exact Nat.zero_le _
/-- the calls ahead of a place turned -/
def tnTo (e : Evt) (i j : Nat) (out : List Cal) : List Cal := (out.take j).map (turnAt e i) ++ out.drop j
@[simp] theorem tnTo_len (e : Evt) (i j : Nat) (out : List Cal) : (tnTo e i j out).length = out.length := by simp [tnTo]; omega
theorem tnTo_zero (e : Evt) (i : Nat) (out : List Cal) : tnTo e i 0 out = out := by simp [tnTo]
theorem tnTo_all (e : Evt) (i : Nat) (out : List Cal) : tnTo e i out.length out = out.map (turnAt e i) := by simp [tnTo]
theorem tnTo_at {e : Evt} {i j : Nat} {out : List Cal} (h : j < out.length) (h' : j < (tnTo e i j out).length) : (tnTo e i j out)[j] = out[j] := by
  have h1 : (tnTo e i j out)[j]? = out[j]? := by
    unfold tnTo
    rw [List.getElem?_append_right (by simp; omega)]
    simp [Nat.min_eq_left (Nat.le_of_lt h)]
  rw [List.getElem?_eq_getElem h', List.getElem?_eq_getElem h] at h1
  exact Option.some.inj h1
theorem tnTo_set {e : Evt} {i j : Nat} {out : List Cal} (h : j < out.length) : (tnTo e i j out).set j (turnAt e i out[j]) = tnTo e i (j + 1) out := by
  unfold tnTo
  rw [List.set_append_right _ _ (by simp; omega), List.take_succ_eq_append_getElem h, List.map_append, List.append_assoc]
  congr 1
  have e0 : j - ((out.take j).map (turnAt e i)).length = 0 := by simp; omega
  rw [e0, List.drop_eq_getElem_cons h]
  rfl
theorem ite_ft {p : Prop} [Decidable p] {x : Bool} (h : (if p then false else x) = true) : ¬ p ∧ x = true := by
  by_cases hp : p
  · rw [if_pos hp] at h; cases h
  · rw [if_neg hp] at h; exact ⟨hp, h⟩
theorem tnTo_same {e : Evt} {i j : Nat} {out : List Cal} (h : j < out.length) (hn : turnAt e i out[j] = out[j]) : tnTo e i (j + 1) out = tnTo e i j out := by
  rw [← tnTo_set h, hn]
  have h' : j < (tnTo e i j out).length := by simpa using h
  rw [← tnTo_at (e := e) (i := i) h h']
  exact List.set_getElem_self h'
theorem checkGo_good {ops : List (List Opn)} : ∀ {es : List Evt} {b d : List Nat}, b.length = ops.length → d.length = ops.length → checkGo ops es b d = true → ∀ e ∈ es, ∃ c k : Nat, e.client = (c : Int) ∧ e.index = (k : Int) ∧ ∃ h : c < ops.length, k < (ops[c]).length
  | [], b, d, _, _, _, e, h => by cases h
  | e0 :: es, b, d, hb, hd, h, e, he => by
    unfold checkGo at h
    obtain ⟨h1, h⟩ := ite_ft h
    dsimp only at h
    obtain ⟨h2, h⟩ := ite_ft h
    have hc : e0.client.toNat < ops.length := by
      have : ¬ e0.client < 0 := fun q => h1 (.inl q)
      have : ¬ (ops.length : Int) ≤ e0.client := fun q => h1 (.inr q)
      omega
    have hc0 : e0.client = (e0.client.toNat : Int) := by
      have : ¬ e0.client < 0 := fun q => h1 (.inl q)
      omega
    have h3 : e0.index = ((if e0.done = true then d.getD e0.client.toNat 0 else b.getD e0.client.toNat 0 : Nat) : Int) := Classical.byContradiction fun q => h2 (.inl q)
    have h4 : (if e0.done = true then d.getD e0.client.toNat 0 else b.getD e0.client.toNat 0) < (ops.getD e0.client.toNat []).length := Nat.lt_of_not_le fun q => h2 (.inr q)
    rw [getD_get hc] at h4
    have rest : ∃ b' d' : List Nat, b'.length = ops.length ∧ d'.length = ops.length ∧ checkGo ops es b' d' = true := by
      by_cases hdn : e0.done = true
      · rw [if_pos hdn] at h
        obtain ⟨_, h⟩ := ite_ft h
        exact ⟨_, _, hb, by simpa using hd, h⟩
      · rw [if_neg hdn] at h
        obtain ⟨_, h⟩ := ite_ft h
        exact ⟨_, _, by simpa using hb, hd, h⟩
    rcases List.mem_cons.1 he with rfl | he
    · exact ⟨_, _, hc0, h3, hc, h4⟩
    · obtain ⟨b', d', q1, q2, q3⟩ := rest
      exact checkGo_good q1 q2 q3 e he
theorem check_good {ev : List Evt} {ops : List (List Opn)} (h : checkC ev ops = true) (e : Evt) (he : e ∈ ev) : ∃ c k : Nat, e.client = (c : Int) ∧ e.index = (k : Int) ∧ ∃ h : c < ops.length, k < (ops[c]).length :=
  checkGo_good (by simp) (by simp) h e he
attribute [local irreducible] OpOK AWops AW CondB Go2 AFn thenA inBlockA noGotoA orderOk wantedA
set_option maxRecDepth 100000 in
set_option maxHeartbeats 16000000 in
theorem a_hcalls (ev : List Evt) (ops : List (List Opn)) (hev : ev.length ≤ 1000000) (hops : ops.length ≤ 1000) : AFn Try.prog 24 [evtsA ev, opsLA ops] (calsA (callsH ev ops)) := by
  have hck := a_hcheck ev ops hev hops
  by_cases hc : checkC ev ops = true
  · have hgood := check_good hc
    have hcl : callsH ev ops = callsHGo ops 0 ev [] := if_pos hc
    rw [hc] at hck
    refine AFn_intro Try.func24 rfl Try.ntmps24 rfl (by simp) [_] rfl fun E hE => ?_
    have hnt : (!true) = false := rfl
    have hnf : (!false) = true := rfl
    have d1 := acall Try.func41 (hck) (by decide +kernel) (by decide +kernel)
    refine wON ?_
    refine AW_go (Go2.tokenO 5 5 26 46 rfl rfl) ?_
    refine AW_loopI (fun x : Nat × List Cal => ⟨[(0, evtsA ev), (1, opsLA ops), (5, .own 5 27 x.2.length .row), (6, intA (x.1 : Nat))], [(5, .own 46 27 (x.2.map Cal.av))]⟩) (fun x => x.1 ≤ ev.length ∧ x.2.length ≤ x.1 ∧ callsHGo ops x.1 (ev.drop x.1) x.2 = callsH ev ops) (fun x => ev.length - x.1) (0, []) ⟨Nat.zero_le _, Nat.le_refl _, hcl.symm⟩ (by (refine Go2.sub ⟨?_, ?_, ?_⟩ <;> repeat' (first | exact True.intro | rfl | apply And.intro))) (fun x hx => ?_)
    obtain ⟨i, out⟩ := x
    obtain ⟨hi, hol, hF⟩ := hx
    dsimp only at hi hol hF ⊢
    by_cases c1 : i < ev.length
    · rw [List.drop_eq_getElem_cons c1] at hF
      obtain ⟨c, k, g1, g2, hcn, hkn⟩ := hgood ev[i] (List.getElem_mem c1)
      rcases he : ev[i] with ⟨cl, ix, dn, an⟩
      rw [he] at g1 g2 hF
      dsimp only at g1 g2
      subst g1 g2
      cases dn
      · have hF : callsHGo ops (i + 1) (ev.drop (i + 1)) (out ++ [⟨(c : Int), (k : Int), hOpAt ops c k, (i : Int), -1, Ans.zero⟩]) = callsH ev ops := by
          rw [callsHGo, if_pos rfl] at hF; exact hF
        have hop := hOpAt_get hcn hkn
        rw [hop] at hF
        refine wOE ?_
        (apply Wb; (focus (exact oo_app (f := Cal.av) (xs := out) (zs := [⟨(c : Int), (k : Int), (ops[c])[k], (i : Int), -1, Ans.zero⟩]) rfl rfl rfl rfl rfl (by exact o_one Cal.av (⟨(c : Int), (k : Int), (ops[c])[k], (i : Int), -1, Ans.zero⟩) rfl) (by simp; omega) (by simp; omega))); (focus (first | exact want_n | exact want_g rfl (by with_reducible rfl))))
        refine wOE ?_
        refine ⟨(i + 1, out ++ [⟨(c : Int), (k : Int), (ops[c])[k], (i : Int), -1, Ans.zero⟩]), ⟨c1, by simp; omega, hF⟩, by show ev.length - (i + 1) < ev.length - i; omega, ?_⟩
        (refine Go2.sub ⟨?_, ?_, ?_⟩ <;> repeat' (first | exact True.intro | rfl | apply And.intro))
      · have hF : callsHGo ops (i + 1) (ev.drop (i + 1)) (out.map (turnAt ⟨(c : Int), (k : Int), true, an⟩ i)) = callsH ev ops := by
          rw [callsHGo, if_neg (by simp)] at hF; exact hF
        refine wOE ?_
        have hln : ∀ j, out.length = (tnTo ⟨(c : Int), (k : Int), true, an⟩ i j out).length := fun j => (tnTo_len _ _ _ _).symm
        refine AW_loopI (fun j : Nat => ⟨[(0, evtsA ev), (1, opsLA ops), (5, .own 5 27 out.length .row), (6, intA (i : Nat)), (7, .ptr 7 0 []), (8, intA (j : Nat))], [(5, .own 46 27 ((tnTo ⟨(c : Int), (k : Int), true, an⟩ i j out).map Cal.av)), (7, .var (Evt.av ⟨(c : Int), (k : Int), true, an⟩))]⟩) (fun j => j ≤ out.length) (fun j => out.length - j) 0 (Nat.zero_le _) (by rw [tnTo_zero]; (refine Go2.sub ⟨?_, ?_, ?_⟩ <;> repeat' (first | exact True.intro | rfl | apply And.intro))) (fun j hj => ?_)
        by_cases c2 : j < out.length
        · have hjy : j < (tnTo ⟨(c : Int), (k : Int), true, an⟩ i j out).length := by rw [← hln]; exact c2
          have h0y : 0 < (tnTo ⟨(c : Int), (k : Int), true, an⟩ i j out).length := by omega
          have hat := tnTo_at (e := ⟨(c : Int), (k : Int), true, an⟩) (i := i) c2 hjy
          have hset := tnTo_set (e := ⟨(c : Int), (k : Int), true, an⟩) (i := i) c2
          have hsame := tnTo_same (e := ⟨(c : Int), (k : Int), true, an⟩) (i := i) c2
          have hlj := hln j
          obtain ⟨c0, hc0⟩ : ∃ c0, out[j] = c0 := ⟨_, rfl⟩
          rw [hc0] at hat hset hsame
          by_cases q1 : c0.client = (c : Int)
          · by_cases q2 : c0.index = (k : Int)
            · have ht : turnAt ⟨(c : Int), (k : Int), true, an⟩ i c0 = { c0 with to := (i : Int), ans := an } := if_pos ⟨q1, q2⟩
              rw [ht] at hset
              have hlj1 : out.length = ((tnTo ⟨(c : Int), (k : Int), true, an⟩ i j out).set j { c0 with to := (i : Int) }).length := by rw [List.length_set]; exact hlj
              have hjy1 : j < ((tnTo ⟨(c : Int), (k : Int), true, an⟩ i j out).set j { c0 with to := (i : Int) }).length := by rw [List.length_set]; exact hjy
              have h0y1 : 0 < ((tnTo ⟨(c : Int), (k : Int), true, an⟩ i j out).set j { c0 with to := (i : Int) }).length := by omega
              repeat (first | (apply Wv; (focus (first | exact oc_len (f := Cal.av) rfl rfl rfl rfl hlj | exact oc_idx (xs := (tnTo ⟨(c : Int), (k : Int), true, an⟩ i j out)) rfl rfl rfl rfl rfl hlj hjy | exact oc_fld (xs := (tnTo ⟨(c : Int), (k : Int), true, an⟩ i j out)) rfl rfl rfl rfl rfl hlj h0y | exact oc_ldE (o := 0) hjy hat hlj rfl rfl rfl rfl rfl (by omega) rfl | exact oc_ldE (o := 1) hjy hat hlj rfl rfl rfl rfl rfl (by omega) rfl)); (focus (first | exact want_n | exact want_g rfl (by with_reducible rfl)))) | (apply Ws; (focus (exact oc_stE ({ c0 with to := (i : Int) }) (o := 7) hjy hat hlj rfl rfl rfl rfl rfl (by omega) rfl rfl rfl rfl rfl)); (focus (first | exact want_n | exact want_g rfl (by with_reducible rfl)))) | (apply Ws; (focus (exact oc2_st ({ c0 with to := (i : Int), ans := an }) rfl rfl rfl rfl rfl rfl rfl rfl rfl rfl rfl hlj hjy)); (focus (first | exact want_n | exact want_g rfl (by with_reducible rfl)))) | (apply Wv; (focus (first | exact oc_idx (xs := (tnTo ⟨(c : Int), (k : Int), true, an⟩ i j out).set j { c0 with to := (i : Int) }) rfl rfl rfl rfl rfl hlj1 hjy1 | exact oc_fld (xs := (tnTo ⟨(c : Int), (k : Int), true, an⟩ i j out).set j { c0 with to := (i : Int) }) rfl rfl rfl rfl rfl hlj1 h0y1)); (focus (first | exact want_n | exact want_g rfl (by with_reducible rfl)))) | (first | (first | refine Wend _ ?_ | refine AW_seq ?_ | refine AW_reg ?_ | refine AW_drw mixed ?_ | refine AW_block ?_ | refine AW_scope ?_ | refine thenA_n ?_ | refine blockA_n ?_ | refine blockA_h ?_ | refine scopeA_n ?_ | refine thenA_r ?_ | refine blockA_r ?_ | refine scopeA_r ?_ | refine thenA_e ?_ | refine scopeA_e ?_ | refine blockA_e rfl ?_ | refine AW_exit ?_ | refine AW_ret ?_ | refine AW_skip ?_ | refine AW_c rfl ?_ | with_reducible refine cb_t ?_ | with_reducible refine cb_f ?_ | with_reducible refine cb_yes (by first | assumption | omega) ?_ | with_reducible refine cb_no (by first | assumption | omega) ?_ | refine And.intro (by decide +kernel) ?_) | (first | (apply Wb; (focus (first | exact on_make rfl rfl rfl rfl rfl rfl rfl rfl (by omega) (by omega))); (focus (first | exact want_n | exact want_g rfl (by with_reducible rfl)))) | (apply Wv; (focus (first | exact on_idx rfl rfl rfl rfl rfl rfl (by first | rfl | assumption | omega | (simp; done) | (simp; omega)) (by first | rfl | assumption | omega | (simp; done) | (simp; omega)) | exact on_ld rfl rfl rfl (by first | rfl | assumption | omega | (simp; done) | (simp; omega)) (by first | rfl | assumption | omega | (simp; done) | (simp; omega)) rfl)); (focus (first | exact want_n | exact want_g rfl (by with_reducible rfl)))) | (apply Ws; (focus (exact on_st rfl rfl rfl (by first | rfl | assumption | omega | (simp; done) | (simp; omega)) (by first | rfl | assumption | omega | (simp; done) | (simp; omega)) rfl)); (focus (first | exact want_n | exact want_g rfl (by with_reducible rfl)))) | (first | (apply Wv; (focus (first | exact step_ok rfl rfl | exact o_idx rfl rfl rfl rfl (by first | assumption | omega | decide) | exact o_idx3 rfl rfl rfl rfl (by first | assumption | omega | decide) | exact o_idx2 rfl rfl rfl rfl rfl (by first | assumption | omega | decide) | exact o_idxr rfl rfl rfl rfl rfl rfl | exact o_lenm rfl rfl rfl | exact o_len rfl rfl rfl | exact o_len0 rfl rfl rfl | exact o_lens rfl rfl rfl | exact o_lent rfl rfl | exact o_add1 rfl rfl rfl (by omega) | exact o_addn rfl rfl rfl (by omega) | exact o_add rfl rfl rfl (by omega) | exact o_sub1 rfl rfl rfl (by omega) | exact o_sub rfl rfl rfl (by omega) | exact o_mul rfl rfl rfl (by omega) | exact o_rem rfl rfl rfl (by omega) | exact ok_rem rfl rfl rfl (by decide) rfl | exact o_eqKey rfl rfl rfl | exact o_neKey rfl rfl rfl | exact o_eqVl rfl rfl rfl | exact o_neVl rfl rfl rfl | exact o_eqEnt rfl rfl rfl | exact o_neEnt rfl rfl rfl | exact o_eqMsg rfl rfl rfl | exact o_neMsg rfl rfl rfl | exact o_acall rfl rfl rfl rfl (by assumption) | exact o_minn rfl rfl rfl | exact o_cutl rfl rfl rfl rfl (by omega) | exact o_cuth rfl rfl rfl rfl (by omega) | exact o_cutl3 rfl rfl rfl rfl (by omega) | exact o_cuth3 rfl rfl rfl rfl (by omega) | exact o_cutl2 rfl rfl rfl rfl rfl (by omega) | exact o_cuth2 rfl rfl rfl rfl rfl (by omega) | exact o_cutlh2 rfl rfl rfl rfl rfl rfl rfl (by omega) (by omega) | exact o_bld zero_Opn rfl rfl rfl rfl rfl rfl rfl | exact o_bld zero_Cal rfl rfl rfl rfl rfl rfl rfl | exact o_bld zero_state rfl rfl rfl rfl rfl rfl rfl | exact o_bld zero_search rfl rfl rfl rfl rfl rfl rfl | exact o_nilcr rfl rfl | exact o_nilcp rfl rfl | exact o_eqbar rfl rfl rfl (by simp) (by simp) | exact o_ldbar rfl rfl (by simp) rfl (by first | omega | (simp; omega)) rfl | exact o_idxpn rfl rfl rfl rfl (by omega) | exact o_idxvn rfl rfl rfl rfl (by omega) (by assumption) rfl | exact o_idxrn rfl rfl rfl rfl (by omega) (by assumption) | exact o_cutarr rfl rfl rfl rfl | exact o_mkfn rfl rfl rfl | exact o_callv rfl rfl rfl rfl rfl rfl (by assumption) | exact o_bld zero_Ans rfl rfl rfl rfl rfl rfl rfl | exact o_eqAns rfl rfl rfl | exact o_neAns rfl rfl rfl | exact e_bld rfl rfl rfl | exact e_bldk rfl rfl | exact z_bld0 rfl rfl rfl rfl rfl | exact z_bld rfl rfl rfl rfl rfl rfl rfl | exact o_addu rfl rfl rfl | exact z_blda rfl rfl rfl rfl rfl rfl rfl rfl rfl | exact o_idxa rfl rfl rfl rfl rfl rfl | exact o_idxra rfl rfl rfl rfl rfl rfl rfl | exact o_quo2 rfl rfl rfl (by omega) | exact o_quo rfl rfl rfl (by omega))); (focus (first | exact want_n | exact want_g rfl (by with_reducible rfl)))) | (apply Wb; (focus (first | exact o_box rfl rfl rfl rfl | exact o_app rfl rfl rfl rfl rfl (by first | exact o_many rfl | exact o_one _ _ rfl) (by first | omega | (simp; omega) | simp) (by first | omega | (simp; omega) | simp) | exact o_appn rfl rfl rfl rfl rfl (by first | exact o_many rfl | exact o_one _ _ rfl) (by first | omega | (simp; omega) | simp) (by first | omega | (simp; omega) | simp) | exact o_app1 rfl rfl rfl rfl rfl (by first | exact o_many rfl | exact o_one _ _ rfl) (by exact rfl) (by first | omega | (simp; omega) | simp) (by first | omega | (simp; omega) | simp) | exact o_app0 rfl rfl rfl rfl rfl (by first | exact o_many rfl | exact o_one _ _ rfl) (by first | omega | (simp; omega) | simp) (by first | omega | (simp; omega) | simp) | exact o_bsl0 rfl rfl rfl | exact z_bsll rfl rfl rfl rfl rfl rfl rfl rfl rfl | exact z_alloc rfl rfl rfl | exact o_alloc zero_Opn rfl rfl | exact o_alloc zero_Cal rfl rfl | exact o_alloc zero_state rfl rfl | exact o_alloc zero_b14 rfl rfl | exact o_cpents rfl rfl rfl rfl rfl rfl (by omega) | exact o_alloc zero_Ans rfl rfl | exact o_bsll zero_Ans rfl rfl rfl rfl rfl rfl rfl rfl | exact o_bsll zero_Opn rfl rfl rfl rfl rfl rfl rfl rfl)); (focus (first | exact want_n | exact want_g rfl (by with_reducible rfl)))) | (apply Ws; (focus (first | exact o_stin rfl (by simp) rfl rfl (by first | omega | (simp; omega)) rfl | exact o_stbar rfl (by simp) rfl rfl (by first | omega | (simp; omega)) rfl | exact ok_store tabT (d := none) rfl rfl rfl rfl rfl rfl rfl rfl rfl rfl)); (focus (first | exact want_n | exact want_g rfl (by with_reducible rfl)))) | (refine Wskip (by first | exact want_f rfl (by with_reducible exact b_nt) | exact want_f rfl (by with_reducible exact b_nf) | exact want_t rfl) rfl ?_) | refine Wgt rfl rfl (by first | assumption | omega | exact rfl) ?_ | refine Wgf rfl rfl (by first | assumption | omega | exact rfl) ?_ | (refine Wgb rfl rfl (by with_reducible assumption) ?_) | (refine cb_is _ (by assumption) ?_)))))
              refine ⟨j + 1, c2, by omega, ?_⟩
              rw [hset]
              (refine Go2.sub ⟨?_, ?_, ?_⟩ <;> repeat' (first | exact True.intro | rfl | apply And.intro))
            · have ht : turnAt ⟨(c : Int), (k : Int), true, an⟩ i c0 = c0 := if_neg (fun h => q2 h.2)
              have hsame := hsame ht
              repeat (first | (apply Wv; (focus (first | exact oc_len (f := Cal.av) rfl rfl rfl rfl hlj | exact oc_idx (xs := (tnTo ⟨(c : Int), (k : Int), true, an⟩ i j out)) rfl rfl rfl rfl rfl hlj hjy | exact oc_fld (xs := (tnTo ⟨(c : Int), (k : Int), true, an⟩ i j out)) rfl rfl rfl rfl rfl hlj h0y | exact oc_ldE (o := 0) hjy hat hlj rfl rfl rfl rfl rfl (by omega) rfl | exact oc_ldE (o := 1) hjy hat hlj rfl rfl rfl rfl rfl (by omega) rfl)); (focus (first | exact want_n | exact want_g rfl (by with_reducible rfl)))) | (first | (first | refine Wend _ ?_ | refine AW_seq ?_ | refine AW_reg ?_ | refine AW_drw mixed ?_ | refine AW_block ?_ | refine AW_scope ?_ | refine thenA_n ?_ | refine blockA_n ?_ | refine blockA_h ?_ | refine scopeA_n ?_ | refine thenA_r ?_ | refine blockA_r ?_ | refine scopeA_r ?_ | refine thenA_e ?_ | refine scopeA_e ?_ | refine blockA_e rfl ?_ | refine AW_exit ?_ | refine AW_ret ?_ | refine AW_skip ?_ | refine AW_c rfl ?_ | with_reducible refine cb_t ?_ | with_reducible refine cb_f ?_ | with_reducible refine cb_yes (by first | assumption | omega) ?_ | with_reducible refine cb_no (by first | assumption | omega) ?_ | refine And.intro (by decide +kernel) ?_) | (first | (apply Wb; (focus (first | exact on_make rfl rfl rfl rfl rfl rfl rfl rfl (by omega) (by omega))); (focus (first | exact want_n | exact want_g rfl (by with_reducible rfl)))) | (apply Wv; (focus (first | exact on_idx rfl rfl rfl rfl rfl rfl (by first | rfl | assumption | omega | (simp; done) | (simp; omega)) (by first | rfl | assumption | omega | (simp; done) | (simp; omega)) | exact on_ld rfl rfl rfl (by first | rfl | assumption | omega | (simp; done) | (simp; omega)) (by first | rfl | assumption | omega | (simp; done) | (simp; omega)) rfl)); (focus (first | exact want_n | exact want_g rfl (by with_reducible rfl)))) | (apply Ws; (focus (exact on_st rfl rfl rfl (by first | rfl | assumption | omega | (simp; done) | (simp; omega)) (by first | rfl | assumption | omega | (simp; done) | (simp; omega)) rfl)); (focus (first | exact want_n | exact want_g rfl (by with_reducible rfl)))) | (first | (apply Wv; (focus (first | exact step_ok rfl rfl | exact o_idx rfl rfl rfl rfl (by first | assumption | omega | decide) | exact o_idx3 rfl rfl rfl rfl (by first | assumption | omega | decide) | exact o_idx2 rfl rfl rfl rfl rfl (by first | assumption | omega | decide) | exact o_idxr rfl rfl rfl rfl rfl rfl | exact o_lenm rfl rfl rfl | exact o_len rfl rfl rfl | exact o_len0 rfl rfl rfl | exact o_lens rfl rfl rfl | exact o_lent rfl rfl | exact o_add1 rfl rfl rfl (by omega) | exact o_addn rfl rfl rfl (by omega) | exact o_add rfl rfl rfl (by omega) | exact o_sub1 rfl rfl rfl (by omega) | exact o_sub rfl rfl rfl (by omega) | exact o_mul rfl rfl rfl (by omega) | exact o_rem rfl rfl rfl (by omega) | exact ok_rem rfl rfl rfl (by decide) rfl | exact o_eqKey rfl rfl rfl | exact o_neKey rfl rfl rfl | exact o_eqVl rfl rfl rfl | exact o_neVl rfl rfl rfl | exact o_eqEnt rfl rfl rfl | exact o_neEnt rfl rfl rfl | exact o_eqMsg rfl rfl rfl | exact o_neMsg rfl rfl rfl | exact o_acall rfl rfl rfl rfl (by assumption) | exact o_minn rfl rfl rfl | exact o_cutl rfl rfl rfl rfl (by omega) | exact o_cuth rfl rfl rfl rfl (by omega) | exact o_cutl3 rfl rfl rfl rfl (by omega) | exact o_cuth3 rfl rfl rfl rfl (by omega) | exact o_cutl2 rfl rfl rfl rfl rfl (by omega) | exact o_cuth2 rfl rfl rfl rfl rfl (by omega) | exact o_cutlh2 rfl rfl rfl rfl rfl rfl rfl (by omega) (by omega) | exact o_bld zero_Opn rfl rfl rfl rfl rfl rfl rfl | exact o_bld zero_Cal rfl rfl rfl rfl rfl rfl rfl | exact o_bld zero_state rfl rfl rfl rfl rfl rfl rfl | exact o_bld zero_search rfl rfl rfl rfl rfl rfl rfl | exact o_nilcr rfl rfl | exact o_nilcp rfl rfl | exact o_eqbar rfl rfl rfl (by simp) (by simp) | exact o_ldbar rfl rfl (by simp) rfl (by first | omega | (simp; omega)) rfl | exact o_idxpn rfl rfl rfl rfl (by omega) | exact o_idxvn rfl rfl rfl rfl (by omega) (by assumption) rfl | exact o_idxrn rfl rfl rfl rfl (by omega) (by assumption) | exact o_cutarr rfl rfl rfl rfl | exact o_mkfn rfl rfl rfl | exact o_callv rfl rfl rfl rfl rfl rfl (by assumption) | exact o_bld zero_Ans rfl rfl rfl rfl rfl rfl rfl | exact o_eqAns rfl rfl rfl | exact o_neAns rfl rfl rfl | exact e_bld rfl rfl rfl | exact e_bldk rfl rfl | exact z_bld0 rfl rfl rfl rfl rfl | exact z_bld rfl rfl rfl rfl rfl rfl rfl | exact o_addu rfl rfl rfl | exact z_blda rfl rfl rfl rfl rfl rfl rfl rfl rfl | exact o_idxa rfl rfl rfl rfl rfl rfl | exact o_idxra rfl rfl rfl rfl rfl rfl rfl | exact o_quo2 rfl rfl rfl (by omega) | exact o_quo rfl rfl rfl (by omega))); (focus (first | exact want_n | exact want_g rfl (by with_reducible rfl)))) | (apply Wb; (focus (first | exact o_box rfl rfl rfl rfl | exact o_app rfl rfl rfl rfl rfl (by first | exact o_many rfl | exact o_one _ _ rfl) (by first | omega | (simp; omega) | simp) (by first | omega | (simp; omega) | simp) | exact o_appn rfl rfl rfl rfl rfl (by first | exact o_many rfl | exact o_one _ _ rfl) (by first | omega | (simp; omega) | simp) (by first | omega | (simp; omega) | simp) | exact o_app1 rfl rfl rfl rfl rfl (by first | exact o_many rfl | exact o_one _ _ rfl) (by exact rfl) (by first | omega | (simp; omega) | simp) (by first | omega | (simp; omega) | simp) | exact o_app0 rfl rfl rfl rfl rfl (by first | exact o_many rfl | exact o_one _ _ rfl) (by first | omega | (simp; omega) | simp) (by first | omega | (simp; omega) | simp) | exact o_bsl0 rfl rfl rfl | exact z_bsll rfl rfl rfl rfl rfl rfl rfl rfl rfl | exact z_alloc rfl rfl rfl | exact o_alloc zero_Opn rfl rfl | exact o_alloc zero_Cal rfl rfl | exact o_alloc zero_state rfl rfl | exact o_alloc zero_b14 rfl rfl | exact o_cpents rfl rfl rfl rfl rfl rfl (by omega) | exact o_alloc zero_Ans rfl rfl | exact o_bsll zero_Ans rfl rfl rfl rfl rfl rfl rfl rfl | exact o_bsll zero_Opn rfl rfl rfl rfl rfl rfl rfl rfl)); (focus (first | exact want_n | exact want_g rfl (by with_reducible rfl)))) | (apply Ws; (focus (first | exact o_stin rfl (by simp) rfl rfl (by first | omega | (simp; omega)) rfl | exact o_stbar rfl (by simp) rfl rfl (by first | omega | (simp; omega)) rfl | exact ok_store tabT (d := none) rfl rfl rfl rfl rfl rfl rfl rfl rfl rfl)); (focus (first | exact want_n | exact want_g rfl (by with_reducible rfl)))) | (refine Wskip (by first | exact want_f rfl (by with_reducible exact b_nt) | exact want_f rfl (by with_reducible exact b_nf) | exact want_t rfl) rfl ?_) | refine Wgt rfl rfl (by first | assumption | omega | exact rfl) ?_ | refine Wgf rfl rfl (by first | assumption | omega | exact rfl) ?_ | (refine Wgb rfl rfl (by with_reducible assumption) ?_) | (refine cb_is _ (by assumption) ?_)))))
              refine ⟨j + 1, c2, by omega, ?_⟩
              rw [hsame]
              (refine Go2.sub ⟨?_, ?_, ?_⟩ <;> repeat' (first | exact True.intro | rfl | apply And.intro))
          · have ht : turnAt ⟨(c : Int), (k : Int), true, an⟩ i c0 = c0 := if_neg (fun h => q1 h.1)
            have hsame := hsame ht
            repeat (first | (apply Wv; (focus (first | exact oc_len (f := Cal.av) rfl rfl rfl rfl hlj | exact oc_idx (xs := (tnTo ⟨(c : Int), (k : Int), true, an⟩ i j out)) rfl rfl rfl rfl rfl hlj hjy | exact oc_fld (xs := (tnTo ⟨(c : Int), (k : Int), true, an⟩ i j out)) rfl rfl rfl rfl rfl hlj h0y | exact oc_ldE (o := 0) hjy hat hlj rfl rfl rfl rfl rfl (by omega) rfl | exact oc_ldE (o := 1) hjy hat hlj rfl rfl rfl rfl rfl (by omega) rfl)); (focus (first | exact want_n | exact want_g rfl (by with_reducible rfl)))) | (first | (first | refine Wend _ ?_ | refine AW_seq ?_ | refine AW_reg ?_ | refine AW_drw mixed ?_ | refine AW_block ?_ | refine AW_scope ?_ | refine thenA_n ?_ | refine blockA_n ?_ | refine blockA_h ?_ | refine scopeA_n ?_ | refine thenA_r ?_ | refine blockA_r ?_ | refine scopeA_r ?_ | refine thenA_e ?_ | refine scopeA_e ?_ | refine blockA_e rfl ?_ | refine AW_exit ?_ | refine AW_ret ?_ | refine AW_skip ?_ | refine AW_c rfl ?_ | with_reducible refine cb_t ?_ | with_reducible refine cb_f ?_ | with_reducible refine cb_yes (by first | assumption | omega) ?_ | with_reducible refine cb_no (by first | assumption | omega) ?_ | refine And.intro (by decide +kernel) ?_) | (first | (apply Wb; (focus (first | exact on_make rfl rfl rfl rfl rfl rfl rfl rfl (by omega) (by omega))); (focus (first | exact want_n | exact want_g rfl (by with_reducible rfl)))) | (apply Wv; (focus (first | exact on_idx rfl rfl rfl rfl rfl rfl (by first | rfl | assumption | omega | (simp; done) | (simp; omega)) (by first | rfl | assumption | omega | (simp; done) | (simp; omega)) | exact on_ld rfl rfl rfl (by first | rfl | assumption | omega | (simp; done) | (simp; omega)) (by first | rfl | assumption | omega | (simp; done) | (simp; omega)) rfl)); (focus (first | exact want_n | exact want_g rfl (by with_reducible rfl)))) | (apply Ws; (focus (exact on_st rfl rfl rfl (by first | rfl | assumption | omega | (simp; done) | (simp; omega)) (by first | rfl | assumption | omega | (simp; done) | (simp; omega)) rfl)); (focus (first | exact want_n | exact want_g rfl (by with_reducible rfl)))) | (first | (apply Wv; (focus (first | exact step_ok rfl rfl | exact o_idx rfl rfl rfl rfl (by first | assumption | omega | decide) | exact o_idx3 rfl rfl rfl rfl (by first | assumption | omega | decide) | exact o_idx2 rfl rfl rfl rfl rfl (by first | assumption | omega | decide) | exact o_idxr rfl rfl rfl rfl rfl rfl | exact o_lenm rfl rfl rfl | exact o_len rfl rfl rfl | exact o_len0 rfl rfl rfl | exact o_lens rfl rfl rfl | exact o_lent rfl rfl | exact o_add1 rfl rfl rfl (by omega) | exact o_addn rfl rfl rfl (by omega) | exact o_add rfl rfl rfl (by omega) | exact o_sub1 rfl rfl rfl (by omega) | exact o_sub rfl rfl rfl (by omega) | exact o_mul rfl rfl rfl (by omega) | exact o_rem rfl rfl rfl (by omega) | exact ok_rem rfl rfl rfl (by decide) rfl | exact o_eqKey rfl rfl rfl | exact o_neKey rfl rfl rfl | exact o_eqVl rfl rfl rfl | exact o_neVl rfl rfl rfl | exact o_eqEnt rfl rfl rfl | exact o_neEnt rfl rfl rfl | exact o_eqMsg rfl rfl rfl | exact o_neMsg rfl rfl rfl | exact o_acall rfl rfl rfl rfl (by assumption) | exact o_minn rfl rfl rfl | exact o_cutl rfl rfl rfl rfl (by omega) | exact o_cuth rfl rfl rfl rfl (by omega) | exact o_cutl3 rfl rfl rfl rfl (by omega) | exact o_cuth3 rfl rfl rfl rfl (by omega) | exact o_cutl2 rfl rfl rfl rfl rfl (by omega) | exact o_cuth2 rfl rfl rfl rfl rfl (by omega) | exact o_cutlh2 rfl rfl rfl rfl rfl rfl rfl (by omega) (by omega) | exact o_bld zero_Opn rfl rfl rfl rfl rfl rfl rfl | exact o_bld zero_Cal rfl rfl rfl rfl rfl rfl rfl | exact o_bld zero_state rfl rfl rfl rfl rfl rfl rfl | exact o_bld zero_search rfl rfl rfl rfl rfl rfl rfl | exact o_nilcr rfl rfl | exact o_nilcp rfl rfl | exact o_eqbar rfl rfl rfl (by simp) (by simp) | exact o_ldbar rfl rfl (by simp) rfl (by first | omega | (simp; omega)) rfl | exact o_idxpn rfl rfl rfl rfl (by omega) | exact o_idxvn rfl rfl rfl rfl (by omega) (by assumption) rfl | exact o_idxrn rfl rfl rfl rfl (by omega) (by assumption) | exact o_cutarr rfl rfl rfl rfl | exact o_mkfn rfl rfl rfl | exact o_callv rfl rfl rfl rfl rfl rfl (by assumption) | exact o_bld zero_Ans rfl rfl rfl rfl rfl rfl rfl | exact o_eqAns rfl rfl rfl | exact o_neAns rfl rfl rfl | exact e_bld rfl rfl rfl | exact e_bldk rfl rfl | exact z_bld0 rfl rfl rfl rfl rfl | exact z_bld rfl rfl rfl rfl rfl rfl rfl | exact o_addu rfl rfl rfl | exact z_blda rfl rfl rfl rfl rfl rfl rfl rfl rfl | exact o_idxa rfl rfl rfl rfl rfl rfl | exact o_idxra rfl rfl rfl rfl rfl rfl rfl | exact o_quo2 rfl rfl rfl (by omega) | exact o_quo rfl rfl rfl (by omega))); (focus (first | exact want_n | exact want_g rfl (by with_reducible rfl)))) | (apply Wb; (focus (first | exact o_box rfl rfl rfl rfl | exact o_app rfl rfl rfl rfl rfl (by first | exact o_many rfl | exact o_one _ _ rfl) (by first | omega | (simp; omega) | simp) (by first | omega | (simp; omega) | simp) | exact o_appn rfl rfl rfl rfl rfl (by first | exact o_many rfl | exact o_one _ _ rfl) (by first | omega | (simp; omega) | simp) (by first | omega | (simp; omega) | simp) | exact o_app1 rfl rfl rfl rfl rfl (by first | exact o_many rfl | exact o_one _ _ rfl) (by exact rfl) (by first | omega | (simp; omega) | simp) (by first | omega | (simp; omega) | simp) | exact o_app0 rfl rfl rfl rfl rfl (by first | exact o_many rfl | exact o_one _ _ rfl) (by first | omega | (simp; omega) | simp) (by first | omega | (simp; omega) | simp) | exact o_bsl0 rfl rfl rfl | exact z_bsll rfl rfl rfl rfl rfl rfl rfl rfl rfl | exact z_alloc rfl rfl rfl | exact o_alloc zero_Opn rfl rfl | exact o_alloc zero_Cal rfl rfl | exact o_alloc zero_state rfl rfl | exact o_alloc zero_b14 rfl rfl | exact o_cpents rfl rfl rfl rfl rfl rfl (by omega) | exact o_alloc zero_Ans rfl rfl | exact o_bsll zero_Ans rfl rfl rfl rfl rfl rfl rfl rfl | exact o_bsll zero_Opn rfl rfl rfl rfl rfl rfl rfl rfl)); (focus (first | exact want_n | exact want_g rfl (by with_reducible rfl)))) | (apply Ws; (focus (first | exact o_stin rfl (by simp) rfl rfl (by first | omega | (simp; omega)) rfl | exact o_stbar rfl (by simp) rfl rfl (by first | omega | (simp; omega)) rfl | exact ok_store tabT (d := none) rfl rfl rfl rfl rfl rfl rfl rfl rfl rfl)); (focus (first | exact want_n | exact want_g rfl (by with_reducible rfl)))) | (refine Wskip (by first | exact want_f rfl (by with_reducible exact b_nt) | exact want_f rfl (by with_reducible exact b_nf) | exact want_t rfl) rfl ?_) | refine Wgt rfl rfl (by first | assumption | omega | exact rfl) ?_ | refine Wgf rfl rfl (by first | assumption | omega | exact rfl) ?_ | (refine Wgb rfl rfl (by with_reducible assumption) ?_) | (refine cb_is _ (by assumption) ?_)))))
            refine ⟨j + 1, c2, by omega, ?_⟩
            rw [hsame]
            (refine Go2.sub ⟨?_, ?_, ?_⟩ <;> repeat' (first | exact True.intro | rfl | apply And.intro))
        · obtain rfl : j = out.length := by omega
          have hll := hln out.length
          repeat (first | (apply Wv; (focus (exact oc_len (f := Cal.av) rfl rfl rfl rfl hll)); (focus (first | exact want_n | exact want_g rfl (by with_reducible rfl)))) | (first | (first | refine Wend _ ?_ | refine AW_seq ?_ | refine AW_reg ?_ | refine AW_drw mixed ?_ | refine AW_block ?_ | refine AW_scope ?_ | refine thenA_n ?_ | refine blockA_n ?_ | refine blockA_h ?_ | refine scopeA_n ?_ | refine thenA_r ?_ | refine blockA_r ?_ | refine scopeA_r ?_ | refine thenA_e ?_ | refine scopeA_e ?_ | refine blockA_e rfl ?_ | refine AW_exit ?_ | refine AW_ret ?_ | refine AW_skip ?_ | refine AW_c rfl ?_ | with_reducible refine cb_t ?_ | with_reducible refine cb_f ?_ | with_reducible refine cb_yes (by first | assumption | omega) ?_ | with_reducible refine cb_no (by first | assumption | omega) ?_ | refine And.intro (by decide +kernel) ?_) | (first | (apply Wb; (focus (first | exact on_make rfl rfl rfl rfl rfl rfl rfl rfl (by omega) (by omega))); (focus (first | exact want_n | exact want_g rfl (by with_reducible rfl)))) | (apply Wv; (focus (first | exact on_idx rfl rfl rfl rfl rfl rfl (by first | rfl | assumption | omega | (simp; done) | (simp; omega)) (by first | rfl | assumption | omega | (simp; done) | (simp; omega)) | exact on_ld rfl rfl rfl (by first | rfl | assumption | omega | (simp; done) | (simp; omega)) (by first | rfl | assumption | omega | (simp; done) | (simp; omega)) rfl)); (focus (first | exact want_n | exact want_g rfl (by with_reducible rfl)))) | (apply Ws; (focus (exact on_st rfl rfl rfl (by first | rfl | assumption | omega | (simp; done) | (simp; omega)) (by first | rfl | assumption | omega | (simp; done) | (simp; omega)) rfl)); (focus (first | exact want_n | exact want_g rfl (by with_reducible rfl)))) | (first | (apply Wv; (focus (first | exact step_ok rfl rfl | exact o_idx rfl rfl rfl rfl (by first | assumption | omega | decide) | exact o_idx3 rfl rfl rfl rfl (by first | assumption | omega | decide) | exact o_idx2 rfl rfl rfl rfl rfl (by first | assumption | omega | decide) | exact o_idxr rfl rfl rfl rfl rfl rfl | exact o_lenm rfl rfl rfl | exact o_len rfl rfl rfl | exact o_len0 rfl rfl rfl | exact o_lens rfl rfl rfl | exact o_lent rfl rfl | exact o_add1 rfl rfl rfl (by omega) | exact o_addn rfl rfl rfl (by omega) | exact o_add rfl rfl rfl (by omega) | exact o_sub1 rfl rfl rfl (by omega) | exact o_sub rfl rfl rfl (by omega) | exact o_mul rfl rfl rfl (by omega) | exact o_rem rfl rfl rfl (by omega) | exact ok_rem rfl rfl rfl (by decide) rfl | exact o_eqKey rfl rfl rfl | exact o_neKey rfl rfl rfl | exact o_eqVl rfl rfl rfl | exact o_neVl rfl rfl rfl | exact o_eqEnt rfl rfl rfl | exact o_neEnt rfl rfl rfl | exact o_eqMsg rfl rfl rfl | exact o_neMsg rfl rfl rfl | exact o_acall rfl rfl rfl rfl (by assumption) | exact o_minn rfl rfl rfl | exact o_cutl rfl rfl rfl rfl (by omega) | exact o_cuth rfl rfl rfl rfl (by omega) | exact o_cutl3 rfl rfl rfl rfl (by omega) | exact o_cuth3 rfl rfl rfl rfl (by omega) | exact o_cutl2 rfl rfl rfl rfl rfl (by omega) | exact o_cuth2 rfl rfl rfl rfl rfl (by omega) | exact o_cutlh2 rfl rfl rfl rfl rfl rfl rfl (by omega) (by omega) | exact o_bld zero_Opn rfl rfl rfl rfl rfl rfl rfl | exact o_bld zero_Cal rfl rfl rfl rfl rfl rfl rfl | exact o_bld zero_state rfl rfl rfl rfl rfl rfl rfl | exact o_bld zero_search rfl rfl rfl rfl rfl rfl rfl | exact o_nilcr rfl rfl | exact o_nilcp rfl rfl | exact o_eqbar rfl rfl rfl (by simp) (by simp) | exact o_ldbar rfl rfl (by simp) rfl (by first | omega | (simp; omega)) rfl | exact o_idxpn rfl rfl rfl rfl (by omega) | exact o_idxvn rfl rfl rfl rfl (by omega) (by assumption) rfl | exact o_idxrn rfl rfl rfl rfl (by omega) (by assumption) | exact o_cutarr rfl rfl rfl rfl | exact o_mkfn rfl rfl rfl | exact o_callv rfl rfl rfl rfl rfl rfl (by assumption) | exact o_bld zero_Ans rfl rfl rfl rfl rfl rfl rfl | exact o_eqAns rfl rfl rfl | exact o_neAns rfl rfl rfl | exact e_bld rfl rfl rfl | exact e_bldk rfl rfl | exact z_bld0 rfl rfl rfl rfl rfl | exact z_bld rfl rfl rfl rfl rfl rfl rfl | exact o_addu rfl rfl rfl | exact z_blda rfl rfl rfl rfl rfl rfl rfl rfl rfl | exact o_idxa rfl rfl rfl rfl rfl rfl | exact o_idxra rfl rfl rfl rfl rfl rfl rfl | exact o_quo2 rfl rfl rfl (by omega) | exact o_quo rfl rfl rfl (by omega))); (focus (first | exact want_n | exact want_g rfl (by with_reducible rfl)))) | (apply Wb; (focus (first | exact o_box rfl rfl rfl rfl | exact o_app rfl rfl rfl rfl rfl (by first | exact o_many rfl | exact o_one _ _ rfl) (by first | omega | (simp; omega) | simp) (by first | omega | (simp; omega) | simp) | exact o_appn rfl rfl rfl rfl rfl (by first | exact o_many rfl | exact o_one _ _ rfl) (by first | omega | (simp; omega) | simp) (by first | omega | (simp; omega) | simp) | exact o_app1 rfl rfl rfl rfl rfl (by first | exact o_many rfl | exact o_one _ _ rfl) (by exact rfl) (by first | omega | (simp; omega) | simp) (by first | omega | (simp; omega) | simp) | exact o_app0 rfl rfl rfl rfl rfl (by first | exact o_many rfl | exact o_one _ _ rfl) (by first | omega | (simp; omega) | simp) (by first | omega | (simp; omega) | simp) | exact o_bsl0 rfl rfl rfl | exact z_bsll rfl rfl rfl rfl rfl rfl rfl rfl rfl | exact z_alloc rfl rfl rfl | exact o_alloc zero_Opn rfl rfl | exact o_alloc zero_Cal rfl rfl | exact o_alloc zero_state rfl rfl | exact o_alloc zero_b14 rfl rfl | exact o_cpents rfl rfl rfl rfl rfl rfl (by omega) | exact o_alloc zero_Ans rfl rfl | exact o_bsll zero_Ans rfl rfl rfl rfl rfl rfl rfl rfl | exact o_bsll zero_Opn rfl rfl rfl rfl rfl rfl rfl rfl)); (focus (first | exact want_n | exact want_g rfl (by with_reducible rfl)))) | (apply Ws; (focus (first | exact o_stin rfl (by simp) rfl rfl (by first | omega | (simp; omega)) rfl | exact o_stbar rfl (by simp) rfl rfl (by first | omega | (simp; omega)) rfl | exact ok_store tabT (d := none) rfl rfl rfl rfl rfl rfl rfl rfl rfl rfl)); (focus (first | exact want_n | exact want_g rfl (by with_reducible rfl)))) | (refine Wskip (by first | exact want_f rfl (by with_reducible exact b_nt) | exact want_f rfl (by with_reducible exact b_nf) | exact want_t rfl) rfl ?_) | refine Wgt rfl rfl (by first | assumption | omega | exact rfl) ?_ | refine Wgf rfl rfl (by first | assumption | omega | exact rfl) ?_ | (refine Wgb rfl rfl (by with_reducible assumption) ?_) | (refine cb_is _ (by assumption) ?_)))))
          rw [tnTo_all]
          refine ⟨(i + 1, out.map (turnAt ⟨(c : Int), (k : Int), true, an⟩ i)), ⟨c1, by show (out.map _).length ≤ i + 1; rw [List.length_map]; omega, hF⟩, by show ev.length - (i + 1) < ev.length - i; omega, ?_⟩
          simp only [List.length_map]
          (refine Go2.sub ⟨?_, ?_, ?_⟩ <;> repeat' (first | exact True.intro | rfl | apply And.intro))
    · obtain rfl : i = ev.length := by omega
      rw [List.drop_length] at hF
      have hF : out = callsH ev ops := hF
      rw [← hF]
      repeat (first | (refine AW_go (S' := ⟨[(5, .own 5 27 out.length .row), (17, .v (.bool (decide ((ev.length : Int) < (ev.length : Int)))))], [(5, .own 46 27 (out.map Cal.av))]⟩) ?_ ?_; (focus ((refine Go2.sub ⟨?_, ?_, ?_⟩ <;> repeat' (first | exact True.intro | rfl | apply And.intro)); done)); rw [show (AV.own 5 27 out.length .row) = AV.own 5 27 (out.map Cal.av).length .row by rw [List.length_map]]; refine AW_go (Go2.thaw (S' := ⟨[(5, .sl (some 5) 27 (out.map Cal.av)), (17, .v (.bool (decide ((ev.length : Int) < (ev.length : Int)))))], [(5, .tail 46 27 (out.map Cal.av).length)]⟩) 5 rfl (by repeat' (first | exact True.intro | rfl | apply And.intro | (simp; done))) (by repeat' (first | exact True.intro | rfl | apply And.intro | (simp; done))) rfl) ?_) | (first | (first | refine Wend _ ?_ | refine AW_seq ?_ | refine AW_reg ?_ | refine AW_drw mixed ?_ | refine AW_block ?_ | refine AW_scope ?_ | refine thenA_n ?_ | refine blockA_n ?_ | refine blockA_h ?_ | refine scopeA_n ?_ | refine thenA_r ?_ | refine blockA_r ?_ | refine scopeA_r ?_ | refine thenA_e ?_ | refine scopeA_e ?_ | refine blockA_e rfl ?_ | refine AW_exit ?_ | refine AW_ret ?_ | refine AW_skip ?_ | refine AW_c rfl ?_ | with_reducible refine cb_t ?_ | with_reducible refine cb_f ?_ | with_reducible refine cb_yes (by first | assumption | omega) ?_ | with_reducible refine cb_no (by first | assumption | omega) ?_ | refine And.intro (by decide +kernel) ?_) | (first | (apply Wb; (focus (first | exact on_make rfl rfl rfl rfl rfl rfl rfl rfl (by omega) (by omega))); (focus (first | exact want_n | exact want_g rfl (by with_reducible rfl)))) | (apply Wv; (focus (first | exact on_idx rfl rfl rfl rfl rfl rfl (by first | rfl | assumption | omega | (simp; done) | (simp; omega)) (by first | rfl | assumption | omega | (simp; done) | (simp; omega)) | exact on_ld rfl rfl rfl (by first | rfl | assumption | omega | (simp; done) | (simp; omega)) (by first | rfl | assumption | omega | (simp; done) | (simp; omega)) rfl)); (focus (first | exact want_n | exact want_g rfl (by with_reducible rfl)))) | (apply Ws; (focus (exact on_st rfl rfl rfl (by first | rfl | assumption | omega | (simp; done) | (simp; omega)) (by first | rfl | assumption | omega | (simp; done) | (simp; omega)) rfl)); (focus (first | exact want_n | exact want_g rfl (by with_reducible rfl)))) | (first | (apply Wv; (focus (first | exact step_ok rfl rfl | exact o_idx rfl rfl rfl rfl (by first | assumption | omega | decide) | exact o_idx3 rfl rfl rfl rfl (by first | assumption | omega | decide) | exact o_idx2 rfl rfl rfl rfl rfl (by first | assumption | omega | decide) | exact o_idxr rfl rfl rfl rfl rfl rfl | exact o_lenm rfl rfl rfl | exact o_len rfl rfl rfl | exact o_len0 rfl rfl rfl | exact o_lens rfl rfl rfl | exact o_lent rfl rfl | exact o_add1 rfl rfl rfl (by omega) | exact o_addn rfl rfl rfl (by omega) | exact o_add rfl rfl rfl (by omega) | exact o_sub1 rfl rfl rfl (by omega) | exact o_sub rfl rfl rfl (by omega) | exact o_mul rfl rfl rfl (by omega) | exact o_rem rfl rfl rfl (by omega) | exact ok_rem rfl rfl rfl (by decide) rfl | exact o_eqKey rfl rfl rfl | exact o_neKey rfl rfl rfl | exact o_eqVl rfl rfl rfl | exact o_neVl rfl rfl rfl | exact o_eqEnt rfl rfl rfl | exact o_neEnt rfl rfl rfl | exact o_eqMsg rfl rfl rfl | exact o_neMsg rfl rfl rfl | exact o_acall rfl rfl rfl rfl (by assumption) | exact o_minn rfl rfl rfl | exact o_cutl rfl rfl rfl rfl (by omega) | exact o_cuth rfl rfl rfl rfl (by omega) | exact o_cutl3 rfl rfl rfl rfl (by omega) | exact o_cuth3 rfl rfl rfl rfl (by omega) | exact o_cutl2 rfl rfl rfl rfl rfl (by omega) | exact o_cuth2 rfl rfl rfl rfl rfl (by omega) | exact o_cutlh2 rfl rfl rfl rfl rfl rfl rfl (by omega) (by omega) | exact o_bld zero_Opn rfl rfl rfl rfl rfl rfl rfl | exact o_bld zero_Cal rfl rfl rfl rfl rfl rfl rfl | exact o_bld zero_state rfl rfl rfl rfl rfl rfl rfl | exact o_bld zero_search rfl rfl rfl rfl rfl rfl rfl | exact o_nilcr rfl rfl | exact o_nilcp rfl rfl | exact o_eqbar rfl rfl rfl (by simp) (by simp) | exact o_ldbar rfl rfl (by simp) rfl (by first | omega | (simp; omega)) rfl | exact o_idxpn rfl rfl rfl rfl (by omega) | exact o_idxvn rfl rfl rfl rfl (by omega) (by assumption) rfl | exact o_idxrn rfl rfl rfl rfl (by omega) (by assumption) | exact o_cutarr rfl rfl rfl rfl | exact o_mkfn rfl rfl rfl | exact o_callv rfl rfl rfl rfl rfl rfl (by assumption) | exact o_bld zero_Ans rfl rfl rfl rfl rfl rfl rfl | exact o_eqAns rfl rfl rfl | exact o_neAns rfl rfl rfl | exact e_bld rfl rfl rfl | exact e_bldk rfl rfl | exact z_bld0 rfl rfl rfl rfl rfl | exact z_bld rfl rfl rfl rfl rfl rfl rfl | exact o_addu rfl rfl rfl | exact z_blda rfl rfl rfl rfl rfl rfl rfl rfl rfl | exact o_idxa rfl rfl rfl rfl rfl rfl | exact o_idxra rfl rfl rfl rfl rfl rfl rfl | exact o_quo2 rfl rfl rfl (by omega) | exact o_quo rfl rfl rfl (by omega))); (focus (first | exact want_n | exact want_g rfl (by with_reducible rfl)))) | (apply Wb; (focus (first | exact o_box rfl rfl rfl rfl | exact o_app rfl rfl rfl rfl rfl (by first | exact o_many rfl | exact o_one _ _ rfl) (by first | omega | (simp; omega) | simp) (by first | omega | (simp; omega) | simp) | exact o_appn rfl rfl rfl rfl rfl (by first | exact o_many rfl | exact o_one _ _ rfl) (by first | omega | (simp; omega) | simp) (by first | omega | (simp; omega) | simp) | exact o_app1 rfl rfl rfl rfl rfl (by first | exact o_many rfl | exact o_one _ _ rfl) (by exact rfl) (by first | omega | (simp; omega) | simp) (by first | omega | (simp; omega) | simp) | exact o_app0 rfl rfl rfl rfl rfl (by first | exact o_many rfl | exact o_one _ _ rfl) (by first | omega | (simp; omega) | simp) (by first | omega | (simp; omega) | simp) | exact o_bsl0 rfl rfl rfl | exact z_bsll rfl rfl rfl rfl rfl rfl rfl rfl rfl | exact z_alloc rfl rfl rfl | exact o_alloc zero_Opn rfl rfl | exact o_alloc zero_Cal rfl rfl | exact o_alloc zero_state rfl rfl | exact o_alloc zero_b14 rfl rfl | exact o_cpents rfl rfl rfl rfl rfl rfl (by omega) | exact o_alloc zero_Ans rfl rfl | exact o_bsll zero_Ans rfl rfl rfl rfl rfl rfl rfl rfl | exact o_bsll zero_Opn rfl rfl rfl rfl rfl rfl rfl rfl)); (focus (first | exact want_n | exact want_g rfl (by with_reducible rfl)))) | (apply Ws; (focus (first | exact o_stin rfl (by simp) rfl rfl (by first | omega | (simp; omega)) rfl | exact o_stbar rfl (by simp) rfl rfl (by first | omega | (simp; omega)) rfl | exact ok_store tabT (d := none) rfl rfl rfl rfl rfl rfl rfl rfl rfl rfl)); (focus (first | exact want_n | exact want_g rfl (by with_reducible rfl)))) | (refine Wskip (by first | exact want_f rfl (by with_reducible exact b_nt) | exact want_f rfl (by with_reducible exact b_nf) | exact want_t rfl) rfl ?_) | refine Wgt rfl rfl (by first | assumption | omega | exact rfl) ?_ | refine Wgf rfl rfl (by first | assumption | omega | exact rfl) ?_ | (refine Wgb rfl rfl (by with_reducible assumption) ?_) | (refine cb_is _ (by assumption) ?_)))))
      exact fin ⟨res_sl rfl, trivial⟩
  · have hc : checkC ev ops = false := by simpa using hc
    rw [show callsH ev ops = [] by unfold callsH; rw [hc]; rfl]
    rw [hc] at hck
    refine AFn_intro Try.func24 rfl Try.ntmps24 rfl (by simp) [_] rfl fun E hE => ?_
    have hnt : (!true) = false := rfl
    have hnf : (!false) = true := rfl
    have d1 := acall Try.func41 (hck) (by decide +kernel) (by decide +kernel)
    refine wON ?_
    exact fin ⟨res_nil rfl, trivial⟩
end Go.Proofs.Ytphojngdgmnpaaa

namespace Go.Proofs.Ytphojngdgmnpaaa
open Go Go.RowKit
set_option linter.unusedVariables false
set_option linter.unusedSimpArgs false
set_option maxRecDepth 100000
set_option linter.unusedSectionVars false
def opsGo (n : Nat) : Nat → List (List Opn) → List Int → List (List Opn)
  | _, r, [] => r
  | i, r, v :: vs => opsGo n (i + 1) (r.set (i % n) (r.getD (i % n) [] ++ [lawOp v])) vs
def lawOps (l : List Int) (n : Nat) : List (List Opn) := opsGo n 0 (List.replicate n []) (l.take (n * 24))
theorem opsGo_len (n : Nat) : ∀ (vs : List Int) (i : Nat) (r : List (List Opn)), (opsGo n i r vs).length = r.length
  | [], i, r => rfl
  | v :: vs, i, r => by unfold opsGo; rw [opsGo_len n vs]; simp
theorem lawOps_len (l : List Int) (n : Nat) : (lawOps l n).length = n := by unfold lawOps; rw [opsGo_len]; simp
theorem aggTok {U : Uns} {w : World} {B : Blk} {H : Hp} {g n m : Nat} {e : TypeId} (h1 : H g = some (.tail e (n + 1) 0)) (h2 : B g = none) : ∀ (pre post : List AV) {cs : List Value}, Rd U w (.agg m (pre ++ .v (.slice none 0 0) :: post)) B H cs → Rd U w (.agg m (pre ++ .sl (some g) (n + 1) [] :: post)) B H cs := by
  have one : ∀ {c : List Value}, Rd U w (.v (.slice none 0 0)) B H c → Rd U w (.sl (some g) (n + 1) []) B H c := by
    intro c h
    simp only [Rd] at h ⊢
    obtain ⟨_, rfl⟩ := h
    exact ⟨none, 0, rfl, Nat.le_refl _, Nat.zero_le _, fun h => absurd h (by simp), fun t ht => by
      injection ht with ht; subst ht
      exact ⟨e, 0, h1, Nat.le_refl _, fun _ => ⟨fun _ => ⟨rfl, rfl⟩, fun b hb => by rw [h2] at hb; cases hb⟩⟩⟩
  have key : ∀ (pre post : List AV) {cs : List Value}, Rds U w (pre ++ .v (.slice none 0 0) :: post) B H cs → Rds U w (pre ++ .sl (some g) (n + 1) [] :: post) B H cs := by
    intro pre post
    induction pre with
    | nil =>
      intro cs h
      simp only [List.nil_append, Rds] at h ⊢
      obtain ⟨c1, c2, e, k1, k2⟩ := h
      exact ⟨c1, c2, e, one k1, k2⟩
    | cons x pre ih =>
      intro cs h
      simp only [List.cons_append, Rds] at h ⊢
      obtain ⟨c1, c2, e, k1, k2⟩ := h
      exact ⟨c1, c2, e, k1, ih k2⟩
  intro pre post cs h
  simp only [Rd] at h ⊢
  exact ⟨h.1, key pre post h.2⟩
theorem arrAgg {U : Uns} {w : World} {B : Blk} {H : Hp} {x : Value} (hx : plain x = true) (m : Nat) {cs : List Value} (h : Rd U w (.arr m 1 (List.replicate m (.v x))) B H cs) : Rd U w (.agg m (List.replicate m (.v x))) B H cs := by
  simp only [Rd] at h ⊢
  refine ⟨h.1, ?_⟩
  have key : ∀ (k : Nat) {cs : List Value}, Rdu U w 1 (List.replicate k (.v x)) B0 H0 cs → Rds U w (List.replicate k (.v x)) B H cs := by
    intro k
    induction k with
    | zero => intro cs h; simpa [Rds, Rdu] using h
    | succ k ih =>
      intro cs h
      rw [List.replicate_succ] at h ⊢
      simp only [Rds, Rdu] at h ⊢
      obtain ⟨c1, c2, e, _, k1, k2⟩ := h
      exact ⟨c1, c2, e, by simpa only [Rd] using k1, ih k2⟩
  exact key m h.2
/-- a made row of slices that stay: a list -/
theorem Go2.segA {E : Env} {nt : Nat} {T : List (Nat × AV)} {H : List (Nat × Bx)} (s g : Nat) {n : Nat} {ys zs : List AV} (hs : look s T = some (.seg g 0 1 [] n n)) (hg : look g H = some (.froz (.agg n ys))) (hw : ∀ H, WkL H ys zs) (hz : ∀ z ∈ zs, sizeA z = 1) (hl : zs.length = n) :
    Go2 E nt ⟨T, H⟩ ⟨(s, .sl none 1 zs) :: T, H⟩ := fun B a w r => by
  refine ⟨B, r.nt, r.df, fun s' x hx => ?_, r.box, r.non, r.inj, r.left, r.keep⟩
  have eT : St.t ⟨(s, AV.sl none 1 zs) :: T, H⟩ = upd (St.t ⟨T, H⟩) s (.sl none 1 zs) := look_cons _ _ _
  rw [eT] at hx
  by_cases h : s' = s
  · subst h
    rw [upd_same] at hx
    injection hx with hx
    subst hx
    obtain ⟨v, h1, h2⟩ := r.tmp s' _ hs
    refine ⟨v, h1, ?_⟩
    have h3 := Rdv_one (by simp) h2 rfl
    simp only [Rd] at h3
    obtain ⟨_, b, k1, k2, k3, k4⟩ := h3
    injection k4 with k4
    subst k4
    obtain ⟨b', cs, q1, q2, q3, q4⟩ := r.box g _ hg
    rw [k1] at q1; injection q1 with q1; subst q1
    obtain ⟨m1, _⟩ := Wk.agg (n := n) (hw (St.h ⟨T, H⟩)) _ _ _ _ q4
    simp only [Rd] at m1
    have hdu := Rds_rdu m1.2 hz
    have hcs : cs.length = n := m1.1
    rw [Rdv_not (by simp)]
    refine ⟨[_], ?_, rfl⟩
    simp only [Rd]
    refine ⟨_, n, by rw [hl], by rw [hl]; exact Nat.le_refl _, k2, fun _ => ⟨b, 0, cs, rfl, by rw [hl, Nat.mul_one, ← hcs]; exact q2, fun o o1 o2 => ?_, hdu⟩, fun t ht => by cases ht⟩
    rw [hl, Nat.mul_one] at o2
    exact q3 o o1 (by omega)
  · rw [upd_ne _ _ h] at hx
    exact r.tmp s' x hx
section
variable {E : Env} {nt : Nat} {ops : Array Oper} {T : Nat → Option AV} {H : Hp} {d : Option Nat} {ty : TypeId} {pos : String} {af : Array Edge} {gd : Option (Nat × Bool)}
theorem o_makeN {t e : TypeId} {bytes : Nat} {ea : Bool} {x y : Operand} {k k' : IntKind} {n : Nat} {g : Nat} (hd : dOk nt (some g) = true) (hs : tabT.ti t = some (.sl e (0 + 1) bytes ea)) (hz : ZeroOk Try.prog e (.v (.slice none 0 0))) (hx : evalO T x = some (.v (.int k (n : Nat)))) (hy : evalO T y = some (.v (.int k' (n : Nat)))) (hg : H g = none) (hb : bytes * n ≤ 140737488355328) (hn : n ≤ 9223372036854775807) :
    OpOK Try.prog E nt ops ⟨some g, .makeSlice t x y, ty, pos, af, gd⟩ T H [] ⟨.seg g 0 1 [] n n, [(g, .var (.arr n 1 (List.replicate n (.v (.slice none 0 0)))))]⟩ := by
  have := ok_make tabT (E := E) (ops := ops) (ty := ty) (pos := pos) (af := af) (gd := gd) hd hs hz hx hy hg hb hn
  simpa using this
end
theorem zero_slops : ZeroOk Try.prog 86 (.v (.slice none 0 0)) := zero_of (v := .slice none 0 0) (n := 1) (by kernel_rfl) fun U w => (rd_v rfl).2 rfl
attribute [local irreducible] OpOK AWops AW CondB Go2 AFn thenA inBlockA noGotoA orderOk wantedA
set_option maxRecDepth 100000 in
set_option maxHeartbeats 16000000 in
theorem a_lops1 (l : List Int) (hv : ∀ v ∈ l, -9223372036854775808 ≤ v ∧ v ≤ 9223372036854775807) (hl : l.length ≤ 1000000000000000) : AFn Try.prog 23 [intsA l, intA 1] (opsLA (lawOps l 1)) := by
  refine AFn_intro Try.func23 rfl Try.ntmps23 rfl (by simp) [_] rfl fun E hE => ?_
  have hnt : (!true) = false := rfl
  have hnf : (!false) = true := rfl
  repeat (first | (apply Wb; (focus (exact o_makeN (n := 1) rfl rfl zero_slops rfl rfl rfl (by omega) (by omega))); (focus (first | exact want_n | exact want_g rfl (by with_reducible rfl)))) | (first | (first | refine Wend _ ?_ | refine AW_seq ?_ | refine AW_reg ?_ | refine AW_drw mixed ?_ | refine AW_block ?_ | refine AW_scope ?_ | refine thenA_n ?_ | refine blockA_n ?_ | refine blockA_h ?_ | refine scopeA_n ?_ | refine thenA_r ?_ | refine blockA_r ?_ | refine scopeA_r ?_ | refine thenA_e ?_ | refine scopeA_e ?_ | refine blockA_e rfl ?_ | refine AW_exit ?_ | refine AW_ret ?_ | refine AW_skip ?_ | refine AW_c rfl ?_ | with_reducible refine cb_t ?_ | with_reducible refine cb_f ?_ | with_reducible refine cb_yes (by first | assumption | omega) ?_ | with_reducible refine cb_no (by first | assumption | omega) ?_ | refine And.intro (by decide +kernel) ?_) | (first | (apply Wb; (focus (first | exact on_make rfl rfl rfl rfl rfl rfl rfl rfl (by omega) (by omega))); (focus (first | exact want_n | exact want_g rfl (by with_reducible rfl)))) | (apply Wv; (focus (first | exact on_idx rfl rfl rfl rfl rfl rfl (by first | rfl | assumption | omega | (simp; done) | (simp; omega)) (by first | rfl | assumption | omega | (simp; done) | (simp; omega)) | exact on_ld rfl rfl rfl (by first | rfl | assumption | omega | (simp; done) | (simp; omega)) (by first | rfl | assumption | omega | (simp; done) | (simp; omega)) rfl)); (focus (first | exact want_n | exact want_g rfl (by with_reducible rfl)))) | (apply Ws; (focus (exact on_st rfl rfl rfl (by first | rfl | assumption | omega | (simp; done) | (simp; omega)) (by first | rfl | assumption | omega | (simp; done) | (simp; omega)) rfl)); (focus (first | exact want_n | exact want_g rfl (by with_reducible rfl)))) | (first | (apply Wv; (focus (first | exact step_ok rfl rfl | exact o_idx rfl rfl rfl rfl (by first | assumption | omega | decide) | exact o_idx3 rfl rfl rfl rfl (by first | assumption | omega | decide) | exact o_idx2 rfl rfl rfl rfl rfl (by first | assumption | omega | decide) | exact o_idxr rfl rfl rfl rfl rfl rfl | exact o_lenm rfl rfl rfl | exact o_len rfl rfl rfl | exact o_len0 rfl rfl rfl | exact o_lens rfl rfl rfl | exact o_lent rfl rfl | exact o_add1 rfl rfl rfl (by omega) | exact o_addn rfl rfl rfl (by omega) | exact o_add rfl rfl rfl (by omega) | exact o_sub1 rfl rfl rfl (by omega) | exact o_sub rfl rfl rfl (by omega) | exact o_mul rfl rfl rfl (by omega) | exact o_rem rfl rfl rfl (by omega) | exact ok_rem rfl rfl rfl (by decide) rfl | exact o_eqKey rfl rfl rfl | exact o_neKey rfl rfl rfl | exact o_eqVl rfl rfl rfl | exact o_neVl rfl rfl rfl | exact o_eqEnt rfl rfl rfl | exact o_neEnt rfl rfl rfl | exact o_eqMsg rfl rfl rfl | exact o_neMsg rfl rfl rfl | exact o_acall rfl rfl rfl rfl (by assumption) | exact o_minn rfl rfl rfl | exact o_cutl rfl rfl rfl rfl (by omega) | exact o_cuth rfl rfl rfl rfl (by omega) | exact o_cutl3 rfl rfl rfl rfl (by omega) | exact o_cuth3 rfl rfl rfl rfl (by omega) | exact o_cutl2 rfl rfl rfl rfl rfl (by omega) | exact o_cuth2 rfl rfl rfl rfl rfl (by omega) | exact o_cutlh2 rfl rfl rfl rfl rfl rfl rfl (by omega) (by omega) | exact o_bld zero_Opn rfl rfl rfl rfl rfl rfl rfl | exact o_bld zero_Cal rfl rfl rfl rfl rfl rfl rfl | exact o_bld zero_state rfl rfl rfl rfl rfl rfl rfl | exact o_bld zero_search rfl rfl rfl rfl rfl rfl rfl | exact o_nilcr rfl rfl | exact o_nilcp rfl rfl | exact o_eqbar rfl rfl rfl (by simp) (by simp) | exact o_ldbar rfl rfl (by simp) rfl (by first | omega | (simp; omega)) rfl | exact o_idxpn rfl rfl rfl rfl (by omega) | exact o_idxvn rfl rfl rfl rfl (by omega) (by assumption) rfl | exact o_idxrn rfl rfl rfl rfl (by omega) (by assumption) | exact o_cutarr rfl rfl rfl rfl | exact o_mkfn rfl rfl rfl | exact o_callv rfl rfl rfl rfl rfl rfl (by assumption) | exact o_bld zero_Ans rfl rfl rfl rfl rfl rfl rfl | exact o_eqAns rfl rfl rfl | exact o_neAns rfl rfl rfl | exact e_bld rfl rfl rfl | exact e_bldk rfl rfl | exact z_bld0 rfl rfl rfl rfl rfl | exact z_bld rfl rfl rfl rfl rfl rfl rfl | exact o_addu rfl rfl rfl | exact z_blda rfl rfl rfl rfl rfl rfl rfl rfl rfl | exact o_idxa rfl rfl rfl rfl rfl rfl | exact o_idxra rfl rfl rfl rfl rfl rfl rfl | exact o_quo2 rfl rfl rfl (by omega) | exact o_quo rfl rfl rfl (by omega))); (focus (first | exact want_n | exact want_g rfl (by with_reducible rfl)))) | (apply Wb; (focus (first | exact o_box rfl rfl rfl rfl | exact o_app rfl rfl rfl rfl rfl (by first | exact o_many rfl | exact o_one _ _ rfl) (by first | omega | (simp; omega) | simp) (by first | omega | (simp; omega) | simp) | exact o_appn rfl rfl rfl rfl rfl (by first | exact o_many rfl | exact o_one _ _ rfl) (by first | omega | (simp; omega) | simp) (by first | omega | (simp; omega) | simp) | exact o_app1 rfl rfl rfl rfl rfl (by first | exact o_many rfl | exact o_one _ _ rfl) (by exact rfl) (by first | omega | (simp; omega) | simp) (by first | omega | (simp; omega) | simp) | exact o_app0 rfl rfl rfl rfl rfl (by first | exact o_many rfl | exact o_one _ _ rfl) (by first | omega | (simp; omega) | simp) (by first | omega | (simp; omega) | simp) | exact o_bsl0 rfl rfl rfl | exact z_bsll rfl rfl rfl rfl rfl rfl rfl rfl rfl | exact z_alloc rfl rfl rfl | exact o_alloc zero_Opn rfl rfl | exact o_alloc zero_Cal rfl rfl | exact o_alloc zero_state rfl rfl | exact o_alloc zero_b14 rfl rfl | exact o_cpents rfl rfl rfl rfl rfl rfl (by omega) | exact o_alloc zero_Ans rfl rfl | exact o_bsll zero_Ans rfl rfl rfl rfl rfl rfl rfl rfl | exact o_bsll zero_Opn rfl rfl rfl rfl rfl rfl rfl rfl)); (focus (first | exact want_n | exact want_g rfl (by with_reducible rfl)))) | (apply Ws; (focus (first | exact o_stin rfl (by simp) rfl rfl (by first | omega | (simp; omega)) rfl | exact o_stbar rfl (by simp) rfl rfl (by first | omega | (simp; omega)) rfl | exact ok_store tabT (d := none) rfl rfl rfl rfl rfl rfl rfl rfl rfl rfl)); (focus (first | exact want_n | exact want_g rfl (by with_reducible rfl)))) | (refine Wskip (by first | exact want_f rfl (by with_reducible exact b_nt) | exact want_f rfl (by with_reducible exact b_nf) | exact want_t rfl) rfl ?_) | refine Wgt rfl rfl (by first | assumption | omega | exact rfl) ?_ | refine Wgf rfl rfl (by first | assumption | omega | exact rfl) ?_ | (refine Wgb rfl rfl (by with_reducible assumption) ?_) | (refine cb_is _ (by assumption) ?_)))))
  refine AW_go (Go2.tokenX (y0 := .agg 1 [.sl (some 101) 4 []]) 8 101 3 38 rfl rfl (fun U w B H' cs h1 h2 hr => aggTok h1 h2 ([]) ([]) (arrAgg rfl 1 hr))) ?_
  refine AW_loopI (fun x : Nat × List Opn => ⟨[(0, intsA l), (1, intA 1), (5, .seg 8 0 1 [] 1 1), (6, intA (x.1 : Nat))], [(8, .var (.agg 1 [.sl (some 101) 4 (x.2.map Opn.av)])), (101, .tail 38 4 x.2.length)]⟩) (fun x => x.1 ≤ (l.take 24).length ∧ x.2.length ≤ x.1 ∧ opsGo 1 x.1 [x.2] ((l.take 24).drop x.1) = lawOps l 1) (fun x => (l.take 24).length - x.1) (0, []) ⟨Nat.zero_le _, Nat.le_refl _, rfl⟩ (by (refine Go2.sub ⟨?_, ?_, ?_⟩ <;> repeat' (first | exact True.intro | rfl | apply And.intro))) (fun x hx => ?_)
  obtain ⟨i, r0⟩ := x
  obtain ⟨hi, hr0, hF⟩ := hx
  dsimp only at hi hr0 hF ⊢
  have htl : (l.take 24).length = min 24 l.length := List.length_take
  by_cases c1 : i < l.length
  · by_cases c2 : i < 24
    · have c2i : (i : Int) < 24 := by omega
      have hlt : i < (l.take 24).length := by omega
      have hvi := hv l[i] (List.getElem_mem c1)
      have co := a_lop l[i] hvi
      have hget : (l.take 24)[i] = l[i] := List.getElem_take
      rw [List.drop_eq_getElem_cons hlt, hget] at hF
      have d1 := acall Try.func26 (co) (by decide +kernel) (by decide +kernel)
      have hmod : i % 1 = 0 := by omega
      have hk := hmod
      · have hF : opsGo 1 (i + 1) [(r0 ++ [lawOp l[i]])] ((l.take 24).drop (i + 1)) = lawOps l 1 := by
          rw [← hF]; show _ = opsGo 1 (i + 1) ([r0].set (i % 1) ([r0].getD (i % 1) [] ++ [lawOp l[i]])) _; rw [hk]; rfl
        have hki : (i : Int) % 1 = ((0 : Nat) : Int) := by omega
        refine wOE ?_
        rw [hki]
        (apply Wv; (focus (exact o_idxs (i := 0) rfl rfl rfl rfl (by omega))); (focus (first | exact want_n | exact want_g rfl (by with_reducible rfl))))
        refine wOE ?_
        refine ⟨(i + 1, (r0 ++ [lawOp l[i]])), ⟨hlt, by simp; omega, hF⟩, by show (l.take 24).length - (i + 1) < (l.take 24).length - i; omega, ?_⟩
        (refine Go2.sub ⟨?_, ?_, ?_⟩ <;> repeat' (first | exact True.intro | rfl | apply And.intro))
    · have c2i : ¬ (i : Int) < 24 := by omega
      have hF : [r0] = lawOps l 1 := by
        rw [List.drop_of_length_le (by omega)] at hF; exact hF
      rw [← hF]
      repeat (first | (refine AW_go (S' := ⟨[(5, .seg 8 0 1 [] 1 1), (18, .v (.bool (decide ((i : Int) < 1 * 24))))], [(8, .var (.agg 1 [.sl (some 101) 4 (r0.map Opn.av)])), (101, .tail 38 4 r0.length)]⟩) ?_ ?_; (focus ((refine Go2.sub ⟨?_, ?_, ?_⟩ <;> repeat' (first | exact True.intro | rfl | apply And.intro)); done)); refine AW_go (Go2.froz hE 8 rfl) ?_; refine AW_go (Go2.segA 5 8 (zs := [opsA r0]) rfl rfl (fun H => by (repeat (first | exact wkl0 | refine wkd rfl ?_ | refine wkt ?_ | refine wkn ?_))) (by simp [opsA, sizeA]) rfl) ?_) | (first | (first | refine Wend _ ?_ | refine AW_seq ?_ | refine AW_reg ?_ | refine AW_drw mixed ?_ | refine AW_block ?_ | refine AW_scope ?_ | refine thenA_n ?_ | refine blockA_n ?_ | refine blockA_h ?_ | refine scopeA_n ?_ | refine thenA_r ?_ | refine blockA_r ?_ | refine scopeA_r ?_ | refine thenA_e ?_ | refine scopeA_e ?_ | refine blockA_e rfl ?_ | refine AW_exit ?_ | refine AW_ret ?_ | refine AW_skip ?_ | refine AW_c rfl ?_ | with_reducible refine cb_t ?_ | with_reducible refine cb_f ?_ | with_reducible refine cb_yes (by first | assumption | omega) ?_ | with_reducible refine cb_no (by first | assumption | omega) ?_ | refine And.intro (by decide +kernel) ?_) | (first | (apply Wb; (focus (first | exact on_make rfl rfl rfl rfl rfl rfl rfl rfl (by omega) (by omega))); (focus (first | exact want_n | exact want_g rfl (by with_reducible rfl)))) | (apply Wv; (focus (first | exact on_idx rfl rfl rfl rfl rfl rfl (by first | rfl | assumption | omega | (simp; done) | (simp; omega)) (by first | rfl | assumption | omega | (simp; done) | (simp; omega)) | exact on_ld rfl rfl rfl (by first | rfl | assumption | omega | (simp; done) | (simp; omega)) (by first | rfl | assumption | omega | (simp; done) | (simp; omega)) rfl)); (focus (first | exact want_n | exact want_g rfl (by with_reducible rfl)))) | (apply Ws; (focus (exact on_st rfl rfl rfl (by first | rfl | assumption | omega | (simp; done) | (simp; omega)) (by first | rfl | assumption | omega | (simp; done) | (simp; omega)) rfl)); (focus (first | exact want_n | exact want_g rfl (by with_reducible rfl)))) | (first | (apply Wv; (focus (first | exact step_ok rfl rfl | exact o_idx rfl rfl rfl rfl (by first | assumption | omega | decide) | exact o_idx3 rfl rfl rfl rfl (by first | assumption | omega | decide) | exact o_idx2 rfl rfl rfl rfl rfl (by first | assumption | omega | decide) | exact o_idxr rfl rfl rfl rfl rfl rfl | exact o_lenm rfl rfl rfl | exact o_len rfl rfl rfl | exact o_len0 rfl rfl rfl | exact o_lens rfl rfl rfl | exact o_lent rfl rfl | exact o_add1 rfl rfl rfl (by omega) | exact o_addn rfl rfl rfl (by omega) | exact o_add rfl rfl rfl (by omega) | exact o_sub1 rfl rfl rfl (by omega) | exact o_sub rfl rfl rfl (by omega) | exact o_mul rfl rfl rfl (by omega) | exact o_rem rfl rfl rfl (by omega) | exact ok_rem rfl rfl rfl (by decide) rfl | exact o_eqKey rfl rfl rfl | exact o_neKey rfl rfl rfl | exact o_eqVl rfl rfl rfl | exact o_neVl rfl rfl rfl | exact o_eqEnt rfl rfl rfl | exact o_neEnt rfl rfl rfl | exact o_eqMsg rfl rfl rfl | exact o_neMsg rfl rfl rfl | exact o_acall rfl rfl rfl rfl (by assumption) | exact o_minn rfl rfl rfl | exact o_cutl rfl rfl rfl rfl (by omega) | exact o_cuth rfl rfl rfl rfl (by omega) | exact o_cutl3 rfl rfl rfl rfl (by omega) | exact o_cuth3 rfl rfl rfl rfl (by omega) | exact o_cutl2 rfl rfl rfl rfl rfl (by omega) | exact o_cuth2 rfl rfl rfl rfl rfl (by omega) | exact o_cutlh2 rfl rfl rfl rfl rfl rfl rfl (by omega) (by omega) | exact o_bld zero_Opn rfl rfl rfl rfl rfl rfl rfl | exact o_bld zero_Cal rfl rfl rfl rfl rfl rfl rfl | exact o_bld zero_state rfl rfl rfl rfl rfl rfl rfl | exact o_bld zero_search rfl rfl rfl rfl rfl rfl rfl | exact o_nilcr rfl rfl | exact o_nilcp rfl rfl | exact o_eqbar rfl rfl rfl (by simp) (by simp) | exact o_ldbar rfl rfl (by simp) rfl (by first | omega | (simp; omega)) rfl | exact o_idxpn rfl rfl rfl rfl (by omega) | exact o_idxvn rfl rfl rfl rfl (by omega) (by assumption) rfl | exact o_idxrn rfl rfl rfl rfl (by omega) (by assumption) | exact o_cutarr rfl rfl rfl rfl | exact o_mkfn rfl rfl rfl | exact o_callv rfl rfl rfl rfl rfl rfl (by assumption) | exact o_bld zero_Ans rfl rfl rfl rfl rfl rfl rfl | exact o_eqAns rfl rfl rfl | exact o_neAns rfl rfl rfl | exact e_bld rfl rfl rfl | exact e_bldk rfl rfl | exact z_bld0 rfl rfl rfl rfl rfl | exact z_bld rfl rfl rfl rfl rfl rfl rfl | exact o_addu rfl rfl rfl | exact z_blda rfl rfl rfl rfl rfl rfl rfl rfl rfl | exact o_idxa rfl rfl rfl rfl rfl rfl | exact o_idxra rfl rfl rfl rfl rfl rfl rfl | exact o_quo2 rfl rfl rfl (by omega) | exact o_quo rfl rfl rfl (by omega))); (focus (first | exact want_n | exact want_g rfl (by with_reducible rfl)))) | (apply Wb; (focus (first | exact o_box rfl rfl rfl rfl | exact o_app rfl rfl rfl rfl rfl (by first | exact o_many rfl | exact o_one _ _ rfl) (by first | omega | (simp; omega) | simp) (by first | omega | (simp; omega) | simp) | exact o_appn rfl rfl rfl rfl rfl (by first | exact o_many rfl | exact o_one _ _ rfl) (by first | omega | (simp; omega) | simp) (by first | omega | (simp; omega) | simp) | exact o_app1 rfl rfl rfl rfl rfl (by first | exact o_many rfl | exact o_one _ _ rfl) (by exact rfl) (by first | omega | (simp; omega) | simp) (by first | omega | (simp; omega) | simp) | exact o_app0 rfl rfl rfl rfl rfl (by first | exact o_many rfl | exact o_one _ _ rfl) (by first | omega | (simp; omega) | simp) (by first | omega | (simp; omega) | simp) | exact o_bsl0 rfl rfl rfl | exact z_bsll rfl rfl rfl rfl rfl rfl rfl rfl rfl | exact z_alloc rfl rfl rfl | exact o_alloc zero_Opn rfl rfl | exact o_alloc zero_Cal rfl rfl | exact o_alloc zero_state rfl rfl | exact o_alloc zero_b14 rfl rfl | exact o_cpents rfl rfl rfl rfl rfl rfl (by omega) | exact o_alloc zero_Ans rfl rfl | exact o_bsll zero_Ans rfl rfl rfl rfl rfl rfl rfl rfl | exact o_bsll zero_Opn rfl rfl rfl rfl rfl rfl rfl rfl)); (focus (first | exact want_n | exact want_g rfl (by with_reducible rfl)))) | (apply Ws; (focus (first | exact o_stin rfl (by simp) rfl rfl (by first | omega | (simp; omega)) rfl | exact o_stbar rfl (by simp) rfl rfl (by first | omega | (simp; omega)) rfl | exact ok_store tabT (d := none) rfl rfl rfl rfl rfl rfl rfl rfl rfl rfl)); (focus (first | exact want_n | exact want_g rfl (by with_reducible rfl)))) | (refine Wskip (by first | exact want_f rfl (by with_reducible exact b_nt) | exact want_f rfl (by with_reducible exact b_nf) | exact want_t rfl) rfl ?_) | refine Wgt rfl rfl (by first | assumption | omega | exact rfl) ?_ | refine Wgf rfl rfl (by first | assumption | omega | exact rfl) ?_ | (refine Wgb rfl rfl (by with_reducible assumption) ?_) | (refine cb_is _ (by assumption) ?_)))))
      exact fin ⟨res_of rfl rfl rfl, trivial⟩
  · have c1i : ¬ (i : Int) < (l.length : Nat) := by omega
    have hF : [r0] = lawOps l 1 := by
      rw [List.drop_of_length_le (by omega)] at hF; exact hF
    rw [← hF]
    repeat (first | (refine AW_go (S' := ⟨[(5, .seg 8 0 1 [] 1 1), (18, .v (.bool false))], [(8, .var (.agg 1 [.sl (some 101) 4 (r0.map Opn.av)])), (101, .tail 38 4 r0.length)]⟩) ?_ ?_; (focus ((refine Go2.sub ⟨?_, ?_, ?_⟩ <;> repeat' (first | exact True.intro | rfl | apply And.intro)); done)); refine AW_go (Go2.froz hE 8 rfl) ?_; refine AW_go (Go2.segA 5 8 (zs := [opsA r0]) rfl rfl (fun H => by (repeat (first | exact wkl0 | refine wkd rfl ?_ | refine wkt ?_ | refine wkn ?_))) (by simp [opsA, sizeA]) rfl) ?_) | (first | (first | refine Wend _ ?_ | refine AW_seq ?_ | refine AW_reg ?_ | refine AW_drw mixed ?_ | refine AW_block ?_ | refine AW_scope ?_ | refine thenA_n ?_ | refine blockA_n ?_ | refine blockA_h ?_ | refine scopeA_n ?_ | refine thenA_r ?_ | refine blockA_r ?_ | refine scopeA_r ?_ | refine thenA_e ?_ | refine scopeA_e ?_ | refine blockA_e rfl ?_ | refine AW_exit ?_ | refine AW_ret ?_ | refine AW_skip ?_ | refine AW_c rfl ?_ | with_reducible refine cb_t ?_ | with_reducible refine cb_f ?_ | with_reducible refine cb_yes (by first | assumption | omega) ?_ | with_reducible refine cb_no (by first | assumption | omega) ?_ | refine And.intro (by decide +kernel) ?_) | (first | (apply Wb; (focus (first | exact on_make rfl rfl rfl rfl rfl rfl rfl rfl (by omega) (by omega))); (focus (first | exact want_n | exact want_g rfl (by with_reducible rfl)))) | (apply Wv; (focus (first | exact on_idx rfl rfl rfl rfl rfl rfl (by first | rfl | assumption | omega | (simp; done) | (simp; omega)) (by first | rfl | assumption | omega | (simp; done) | (simp; omega)) | exact on_ld rfl rfl rfl (by first | rfl | assumption | omega | (simp; done) | (simp; omega)) (by first | rfl | assumption | omega | (simp; done) | (simp; omega)) rfl)); (focus (first | exact want_n | exact want_g rfl (by with_reducible rfl)))) | (apply Ws; (focus (exact on_st rfl rfl rfl (by first | rfl | assumption | omega | (simp; done) | (simp; omega)) (by first | rfl | assumption | omega | (simp; done) | (simp; omega)) rfl)); (focus (first | exact want_n | exact want_g rfl (by with_reducible rfl)))) | (first | (apply Wv; (focus (first | exact step_ok rfl rfl | exact o_idx rfl rfl rfl rfl (by first | assumption | omega | decide) | exact o_idx3 rfl rfl rfl rfl (by first | assumption | omega | decide) | exact o_idx2 rfl rfl rfl rfl rfl (by first | assumption | omega | decide) | exact o_idxr rfl rfl rfl rfl rfl rfl | exact o_lenm rfl rfl rfl | exact o_len rfl rfl rfl | exact o_len0 rfl rfl rfl | exact o_lens rfl rfl rfl | exact o_lent rfl rfl | exact o_add1 rfl rfl rfl (by omega) | exact o_addn rfl rfl rfl (by omega) | exact o_add rfl rfl rfl (by omega) | exact o_sub1 rfl rfl rfl (by omega) | exact o_sub rfl rfl rfl (by omega) | exact o_mul rfl rfl rfl (by omega) | exact o_rem rfl rfl rfl (by omega) | exact ok_rem rfl rfl rfl (by decide) rfl | exact o_eqKey rfl rfl rfl | exact o_neKey rfl rfl rfl | exact o_eqVl rfl rfl rfl | exact o_neVl rfl rfl rfl | exact o_eqEnt rfl rfl rfl | exact o_neEnt rfl rfl rfl | exact o_eqMsg rfl rfl rfl | exact o_neMsg rfl rfl rfl | exact o_acall rfl rfl rfl rfl (by assumption) | exact o_minn rfl rfl rfl | exact o_cutl rfl rfl rfl rfl (by omega) | exact o_cuth rfl rfl rfl rfl (by omega) | exact o_cutl3 rfl rfl rfl rfl (by omega) | exact o_cuth3 rfl rfl rfl rfl (by omega) | exact o_cutl2 rfl rfl rfl rfl rfl (by omega) | exact o_cuth2 rfl rfl rfl rfl rfl (by omega) | exact o_cutlh2 rfl rfl rfl rfl rfl rfl rfl (by omega) (by omega) | exact o_bld zero_Opn rfl rfl rfl rfl rfl rfl rfl | exact o_bld zero_Cal rfl rfl rfl rfl rfl rfl rfl | exact o_bld zero_state rfl rfl rfl rfl rfl rfl rfl | exact o_bld zero_search rfl rfl rfl rfl rfl rfl rfl | exact o_nilcr rfl rfl | exact o_nilcp rfl rfl | exact o_eqbar rfl rfl rfl (by simp) (by simp) | exact o_ldbar rfl rfl (by simp) rfl (by first | omega | (simp; omega)) rfl | exact o_idxpn rfl rfl rfl rfl (by omega) | exact o_idxvn rfl rfl rfl rfl (by omega) (by assumption) rfl | exact o_idxrn rfl rfl rfl rfl (by omega) (by assumption) | exact o_cutarr rfl rfl rfl rfl | exact o_mkfn rfl rfl rfl | exact o_callv rfl rfl rfl rfl rfl rfl (by assumption) | exact o_bld zero_Ans rfl rfl rfl rfl rfl rfl rfl | exact o_eqAns rfl rfl rfl | exact o_neAns rfl rfl rfl | exact e_bld rfl rfl rfl | exact e_bldk rfl rfl | exact z_bld0 rfl rfl rfl rfl rfl | exact z_bld rfl rfl rfl rfl rfl rfl rfl | exact o_addu rfl rfl rfl | exact z_blda rfl rfl rfl rfl rfl rfl rfl rfl rfl | exact o_idxa rfl rfl rfl rfl rfl rfl | exact o_idxra rfl rfl rfl rfl rfl rfl rfl | exact o_quo2 rfl rfl rfl (by omega) | exact o_quo rfl rfl rfl (by omega))); (focus (first | exact want_n | exact want_g rfl (by with_reducible rfl)))) | (apply Wb; (focus (first | exact o_box rfl rfl rfl rfl | exact o_app rfl rfl rfl rfl rfl (by first | exact o_many rfl | exact o_one _ _ rfl) (by first | omega | (simp; omega) | simp) (by first | omega | (simp; omega) | simp) | exact o_appn rfl rfl rfl rfl rfl (by first | exact o_many rfl | exact o_one _ _ rfl) (by first | omega | (simp; omega) | simp) (by first | omega | (simp; omega) | simp) | exact o_app1 rfl rfl rfl rfl rfl (by first | exact o_many rfl | exact o_one _ _ rfl) (by exact rfl) (by first | omega | (simp; omega) | simp) (by first | omega | (simp; omega) | simp) | exact o_app0 rfl rfl rfl rfl rfl (by first | exact o_many rfl | exact o_one _ _ rfl) (by first | omega | (simp; omega) | simp) (by first | omega | (simp; omega) | simp) | exact o_bsl0 rfl rfl rfl | exact z_bsll rfl rfl rfl rfl rfl rfl rfl rfl rfl | exact z_alloc rfl rfl rfl | exact o_alloc zero_Opn rfl rfl | exact o_alloc zero_Cal rfl rfl | exact o_alloc zero_state rfl rfl | exact o_alloc zero_b14 rfl rfl | exact o_cpents rfl rfl rfl rfl rfl rfl (by omega) | exact o_alloc zero_Ans rfl rfl | exact o_bsll zero_Ans rfl rfl rfl rfl rfl rfl rfl rfl | exact o_bsll zero_Opn rfl rfl rfl rfl rfl rfl rfl rfl)); (focus (first | exact want_n | exact want_g rfl (by with_reducible rfl)))) | (apply Ws; (focus (first | exact o_stin rfl (by simp) rfl rfl (by first | omega | (simp; omega)) rfl | exact o_stbar rfl (by simp) rfl rfl (by first | omega | (simp; omega)) rfl | exact ok_store tabT (d := none) rfl rfl rfl rfl rfl rfl rfl rfl rfl rfl)); (focus (first | exact want_n | exact want_g rfl (by with_reducible rfl)))) | (refine Wskip (by first | exact want_f rfl (by with_reducible exact b_nt) | exact want_f rfl (by with_reducible exact b_nf) | exact want_t rfl) rfl ?_) | refine Wgt rfl rfl (by first | assumption | omega | exact rfl) ?_ | refine Wgf rfl rfl (by first | assumption | omega | exact rfl) ?_ | (refine Wgb rfl rfl (by with_reducible assumption) ?_) | (refine cb_is _ (by assumption) ?_)))))
    exact fin ⟨res_of rfl rfl rfl, trivial⟩
set_option maxRecDepth 100000 in
set_option maxHeartbeats 16000000 in
theorem a_lops2 (l : List Int) (hv : ∀ v ∈ l, -9223372036854775808 ≤ v ∧ v ≤ 9223372036854775807) (hl : l.length ≤ 1000000000000000) : AFn Try.prog 23 [intsA l, intA 2] (opsLA (lawOps l 2)) := by
  refine AFn_intro Try.func23 rfl Try.ntmps23 rfl (by simp) [_] rfl fun E hE => ?_
  have hnt : (!true) = false := rfl
  have hnf : (!false) = true := rfl
  repeat (first | (apply Wb; (focus (exact o_makeN (n := 2) rfl rfl zero_slops rfl rfl rfl (by omega) (by omega))); (focus (first | exact want_n | exact want_g rfl (by with_reducible rfl)))) | (first | (first | refine Wend _ ?_ | refine AW_seq ?_ | refine AW_reg ?_ | refine AW_drw mixed ?_ | refine AW_block ?_ | refine AW_scope ?_ | refine thenA_n ?_ | refine blockA_n ?_ | refine blockA_h ?_ | refine scopeA_n ?_ | refine thenA_r ?_ | refine blockA_r ?_ | refine scopeA_r ?_ | refine thenA_e ?_ | refine scopeA_e ?_ | refine blockA_e rfl ?_ | refine AW_exit ?_ | refine AW_ret ?_ | refine AW_skip ?_ | refine AW_c rfl ?_ | with_reducible refine cb_t ?_ | with_reducible refine cb_f ?_ | with_reducible refine cb_yes (by first | assumption | omega) ?_ | with_reducible refine cb_no (by first | assumption | omega) ?_ | refine And.intro (by decide +kernel) ?_) | (first | (apply Wb; (focus (first | exact on_make rfl rfl rfl rfl rfl rfl rfl rfl (by omega) (by omega))); (focus (first | exact want_n | exact want_g rfl (by with_reducible rfl)))) | (apply Wv; (focus (first | exact on_idx rfl rfl rfl rfl rfl rfl (by first | rfl | assumption | omega | (simp; done) | (simp; omega)) (by first | rfl | assumption | omega | (simp; done) | (simp; omega)) | exact on_ld rfl rfl rfl (by first | rfl | assumption | omega | (simp; done) | (simp; omega)) (by first | rfl | assumption | omega | (simp; done) | (simp; omega)) rfl)); (focus (first | exact want_n | exact want_g rfl (by with_reducible rfl)))) | (apply Ws; (focus (exact on_st rfl rfl rfl (by first | rfl | assumption | omega | (simp; done) | (simp; omega)) (by first | rfl | assumption | omega | (simp; done) | (simp; omega)) rfl)); (focus (first | exact want_n | exact want_g rfl (by with_reducible rfl)))) | (first | (apply Wv; (focus (first | exact step_ok rfl rfl | exact o_idx rfl rfl rfl rfl (by first | assumption | omega | decide) | exact o_idx3 rfl rfl rfl rfl (by first | assumption | omega | decide) | exact o_idx2 rfl rfl rfl rfl rfl (by first | assumption | omega | decide) | exact o_idxr rfl rfl rfl rfl rfl rfl | exact o_lenm rfl rfl rfl | exact o_len rfl rfl rfl | exact o_len0 rfl rfl rfl | exact o_lens rfl rfl rfl | exact o_lent rfl rfl | exact o_add1 rfl rfl rfl (by omega) | exact o_addn rfl rfl rfl (by omega) | exact o_add rfl rfl rfl (by omega) | exact o_sub1 rfl rfl rfl (by omega) | exact o_sub rfl rfl rfl (by omega) | exact o_mul rfl rfl rfl (by omega) | exact o_rem rfl rfl rfl (by omega) | exact ok_rem rfl rfl rfl (by decide) rfl | exact o_eqKey rfl rfl rfl | exact o_neKey rfl rfl rfl | exact o_eqVl rfl rfl rfl | exact o_neVl rfl rfl rfl | exact o_eqEnt rfl rfl rfl | exact o_neEnt rfl rfl rfl | exact o_eqMsg rfl rfl rfl | exact o_neMsg rfl rfl rfl | exact o_acall rfl rfl rfl rfl (by assumption) | exact o_minn rfl rfl rfl | exact o_cutl rfl rfl rfl rfl (by omega) | exact o_cuth rfl rfl rfl rfl (by omega) | exact o_cutl3 rfl rfl rfl rfl (by omega) | exact o_cuth3 rfl rfl rfl rfl (by omega) | exact o_cutl2 rfl rfl rfl rfl rfl (by omega) | exact o_cuth2 rfl rfl rfl rfl rfl (by omega) | exact o_cutlh2 rfl rfl rfl rfl rfl rfl rfl (by omega) (by omega) | exact o_bld zero_Opn rfl rfl rfl rfl rfl rfl rfl | exact o_bld zero_Cal rfl rfl rfl rfl rfl rfl rfl | exact o_bld zero_state rfl rfl rfl rfl rfl rfl rfl | exact o_bld zero_search rfl rfl rfl rfl rfl rfl rfl | exact o_nilcr rfl rfl | exact o_nilcp rfl rfl | exact o_eqbar rfl rfl rfl (by simp) (by simp) | exact o_ldbar rfl rfl (by simp) rfl (by first | omega | (simp; omega)) rfl | exact o_idxpn rfl rfl rfl rfl (by omega) | exact o_idxvn rfl rfl rfl rfl (by omega) (by assumption) rfl | exact o_idxrn rfl rfl rfl rfl (by omega) (by assumption) | exact o_cutarr rfl rfl rfl rfl | exact o_mkfn rfl rfl rfl | exact o_callv rfl rfl rfl rfl rfl rfl (by assumption) | exact o_bld zero_Ans rfl rfl rfl rfl rfl rfl rfl | exact o_eqAns rfl rfl rfl | exact o_neAns rfl rfl rfl | exact e_bld rfl rfl rfl | exact e_bldk rfl rfl | exact z_bld0 rfl rfl rfl rfl rfl | exact z_bld rfl rfl rfl rfl rfl rfl rfl | exact o_addu rfl rfl rfl | exact z_blda rfl rfl rfl rfl rfl rfl rfl rfl rfl | exact o_idxa rfl rfl rfl rfl rfl rfl | exact o_idxra rfl rfl rfl rfl rfl rfl rfl | exact o_quo2 rfl rfl rfl (by omega) | exact o_quo rfl rfl rfl (by omega))); (focus (first | exact want_n | exact want_g rfl (by with_reducible rfl)))) | (apply Wb; (focus (first | exact o_box rfl rfl rfl rfl | exact o_app rfl rfl rfl rfl rfl (by first | exact o_many rfl | exact o_one _ _ rfl) (by first | omega | (simp; omega) | simp) (by first | omega | (simp; omega) | simp) | exact o_appn rfl rfl rfl rfl rfl (by first | exact o_many rfl | exact o_one _ _ rfl) (by first | omega | (simp; omega) | simp) (by first | omega | (simp; omega) | simp) | exact o_app1 rfl rfl rfl rfl rfl (by first | exact o_many rfl | exact o_one _ _ rfl) (by exact rfl) (by first | omega | (simp; omega) | simp) (by first | omega | (simp; omega) | simp) | exact o_app0 rfl rfl rfl rfl rfl (by first | exact o_many rfl | exact o_one _ _ rfl) (by first | omega | (simp; omega) | simp) (by first | omega | (simp; omega) | simp) | exact o_bsl0 rfl rfl rfl | exact z_bsll rfl rfl rfl rfl rfl rfl rfl rfl rfl | exact z_alloc rfl rfl rfl | exact o_alloc zero_Opn rfl rfl | exact o_alloc zero_Cal rfl rfl | exact o_alloc zero_state rfl rfl | exact o_alloc zero_b14 rfl rfl | exact o_cpents rfl rfl rfl rfl rfl rfl (by omega) | exact o_alloc zero_Ans rfl rfl | exact o_bsll zero_Ans rfl rfl rfl rfl rfl rfl rfl rfl | exact o_bsll zero_Opn rfl rfl rfl rfl rfl rfl rfl rfl)); (focus (first | exact want_n | exact want_g rfl (by with_reducible rfl)))) | (apply Ws; (focus (first | exact o_stin rfl (by simp) rfl rfl (by first | omega | (simp; omega)) rfl | exact o_stbar rfl (by simp) rfl rfl (by first | omega | (simp; omega)) rfl | exact ok_store tabT (d := none) rfl rfl rfl rfl rfl rfl rfl rfl rfl rfl)); (focus (first | exact want_n | exact want_g rfl (by with_reducible rfl)))) | (refine Wskip (by first | exact want_f rfl (by with_reducible exact b_nt) | exact want_f rfl (by with_reducible exact b_nf) | exact want_t rfl) rfl ?_) | refine Wgt rfl rfl (by first | assumption | omega | exact rfl) ?_ | refine Wgf rfl rfl (by first | assumption | omega | exact rfl) ?_ | (refine Wgb rfl rfl (by with_reducible assumption) ?_) | (refine cb_is _ (by assumption) ?_)))))
  refine AW_go (Go2.tokenX (y0 := .agg 2 [.sl (some 101) 4 [], .v (.slice none 0 0)]) 8 101 3 38 rfl rfl (fun U w B H' cs h1 h2 hr => aggTok h1 h2 ([]) ([.v (.slice none 0 0)]) (arrAgg rfl 2 hr))) ?_
  refine AW_go (Go2.tokenX (y0 := .agg 2 [.sl (some 101) 4 [], .sl (some 102) 4 []]) 8 102 3 38 rfl rfl (fun U w B H' cs h1 h2 hr => aggTok h1 h2 ([.sl (some 101) 4 []]) ([]) (hr))) ?_
  refine AW_loopI (fun x : Nat × List Opn × List Opn => ⟨[(0, intsA l), (1, intA 2), (5, .seg 8 0 1 [] 2 2), (6, intA (x.1 : Nat))], [(8, .var (.agg 2 [.sl (some 101) 4 (x.2.1.map Opn.av), .sl (some 102) 4 (x.2.2.map Opn.av)])), (101, .tail 38 4 x.2.1.length), (102, .tail 38 4 x.2.2.length)]⟩) (fun x => x.1 ≤ (l.take 48).length ∧ x.2.1.length ≤ x.1 ∧ x.2.2.length ≤ x.1 ∧ opsGo 2 x.1 [x.2.1, x.2.2] ((l.take 48).drop x.1) = lawOps l 2) (fun x => (l.take 48).length - x.1) (0, [], []) ⟨Nat.zero_le _, Nat.le_refl _, Nat.le_refl _, rfl⟩ (by (refine Go2.sub ⟨?_, ?_, ?_⟩ <;> repeat' (first | exact True.intro | rfl | apply And.intro))) (fun x hx => ?_)
  obtain ⟨i, r0, r1⟩ := x
  obtain ⟨hi, hr0, hr1, hF⟩ := hx
  dsimp only at hi hr0 hr1 hF ⊢
  have htl : (l.take 48).length = min 48 l.length := List.length_take
  by_cases c1 : i < l.length
  · by_cases c2 : i < 48
    · have c2i : (i : Int) < 48 := by omega
      have hlt : i < (l.take 48).length := by omega
      have hvi := hv l[i] (List.getElem_mem c1)
      have co := a_lop l[i] hvi
      have hget : (l.take 48)[i] = l[i] := List.getElem_take
      rw [List.drop_eq_getElem_cons hlt, hget] at hF
      have d1 := acall Try.func26 (co) (by decide +kernel) (by decide +kernel)
      have hmod : i % 2 = 0 ∨ i % 2 = 1 := by omega
      rcases hmod with hk | hk
      · have hF : opsGo 2 (i + 1) [(r0 ++ [lawOp l[i]]), r1] ((l.take 48).drop (i + 1)) = lawOps l 2 := by
          rw [← hF]; show _ = opsGo 2 (i + 1) ([r0, r1].set (i % 2) ([r0, r1].getD (i % 2) [] ++ [lawOp l[i]])) _; rw [hk]; rfl
        have hki : (i : Int) % 2 = ((0 : Nat) : Int) := by omega
        refine wOE ?_
        rw [hki]
        (apply Wv; (focus (exact o_idxs (i := 0) rfl rfl rfl rfl (by omega))); (focus (first | exact want_n | exact want_g rfl (by with_reducible rfl))))
        refine wOE ?_
        refine ⟨(i + 1, (r0 ++ [lawOp l[i]]), r1), ⟨hlt, by simp; omega, by show r1.length ≤ i + 1; omega, hF⟩, by show (l.take 48).length - (i + 1) < (l.take 48).length - i; omega, ?_⟩
        (refine Go2.sub ⟨?_, ?_, ?_⟩ <;> repeat' (first | exact True.intro | rfl | apply And.intro))
      · have hF : opsGo 2 (i + 1) [r0, (r1 ++ [lawOp l[i]])] ((l.take 48).drop (i + 1)) = lawOps l 2 := by
          rw [← hF]; show _ = opsGo 2 (i + 1) ([r0, r1].set (i % 2) ([r0, r1].getD (i % 2) [] ++ [lawOp l[i]])) _; rw [hk]; rfl
        have hki : (i : Int) % 2 = ((1 : Nat) : Int) := by omega
        refine wOE ?_
        rw [hki]
        (apply Wv; (focus (exact o_idxs (i := 1) rfl rfl rfl rfl (by omega))); (focus (first | exact want_n | exact want_g rfl (by with_reducible rfl))))
        refine wOE ?_
        refine ⟨(i + 1, r0, (r1 ++ [lawOp l[i]])), ⟨hlt, by show r0.length ≤ i + 1; omega, by simp; omega, hF⟩, by show (l.take 48).length - (i + 1) < (l.take 48).length - i; omega, ?_⟩
        (refine Go2.sub ⟨?_, ?_, ?_⟩ <;> repeat' (first | exact True.intro | rfl | apply And.intro))
    · have c2i : ¬ (i : Int) < 48 := by omega
      have hF : [r0, r1] = lawOps l 2 := by
        rw [List.drop_of_length_le (by omega)] at hF; exact hF
      rw [← hF]
      repeat (first | (refine AW_go (S' := ⟨[(5, .seg 8 0 1 [] 2 2), (18, .v (.bool (decide ((i : Int) < 2 * 24))))], [(8, .var (.agg 2 [.sl (some 101) 4 (r0.map Opn.av), .sl (some 102) 4 (r1.map Opn.av)])), (101, .tail 38 4 r0.length), (102, .tail 38 4 r1.length)]⟩) ?_ ?_; (focus ((refine Go2.sub ⟨?_, ?_, ?_⟩ <;> repeat' (first | exact True.intro | rfl | apply And.intro)); done)); refine AW_go (Go2.froz hE 8 rfl) ?_; refine AW_go (Go2.segA 5 8 (zs := [opsA r0, opsA r1]) rfl rfl (fun H => by (repeat (first | exact wkl0 | refine wkd rfl ?_ | refine wkt ?_ | refine wkn ?_))) (by simp [opsA, sizeA]) rfl) ?_) | (first | (first | refine Wend _ ?_ | refine AW_seq ?_ | refine AW_reg ?_ | refine AW_drw mixed ?_ | refine AW_block ?_ | refine AW_scope ?_ | refine thenA_n ?_ | refine blockA_n ?_ | refine blockA_h ?_ | refine scopeA_n ?_ | refine thenA_r ?_ | refine blockA_r ?_ | refine scopeA_r ?_ | refine thenA_e ?_ | refine scopeA_e ?_ | refine blockA_e rfl ?_ | refine AW_exit ?_ | refine AW_ret ?_ | refine AW_skip ?_ | refine AW_c rfl ?_ | with_reducible refine cb_t ?_ | with_reducible refine cb_f ?_ | with_reducible refine cb_yes (by first | assumption | omega) ?_ | with_reducible refine cb_no (by first | assumption | omega) ?_ | refine And.intro (by decide +kernel) ?_) | (first | (apply Wb; (focus (first | exact on_make rfl rfl rfl rfl rfl rfl rfl rfl (by omega) (by omega))); (focus (first | exact want_n | exact want_g rfl (by with_reducible rfl)))) | (apply Wv; (focus (first | exact on_idx rfl rfl rfl rfl rfl rfl (by first | rfl | assumption | omega | (simp; done) | (simp; omega)) (by first | rfl | assumption | omega | (simp; done) | (simp; omega)) | exact on_ld rfl rfl rfl (by first | rfl | assumption | omega | (simp; done) | (simp; omega)) (by first | rfl | assumption | omega | (simp; done) | (simp; omega)) rfl)); (focus (first | exact want_n | exact want_g rfl (by with_reducible rfl)))) | (apply Ws; (focus (exact on_st rfl rfl rfl (by first | rfl | assumption | omega | (simp; done) | (simp; omega)) (by first | rfl | assumption | omega | (simp; done) | (simp; omega)) rfl)); (focus (first | exact want_n | exact want_g rfl (by with_reducible rfl)))) | (first | (apply Wv; (focus (first | exact step_ok rfl rfl | exact o_idx rfl rfl rfl rfl (by first | assumption | omega | decide) | exact o_idx3 rfl rfl rfl rfl (by first | assumption | omega | decide) | exact o_idx2 rfl rfl rfl rfl rfl (by first | assumption | omega | decide) | exact o_idxr rfl rfl rfl rfl rfl rfl | exact o_lenm rfl rfl rfl | exact o_len rfl rfl rfl | exact o_len0 rfl rfl rfl | exact o_lens rfl rfl rfl | exact o_lent rfl rfl | exact o_add1 rfl rfl rfl (by omega) | exact o_addn rfl rfl rfl (by omega) | exact o_add rfl rfl rfl (by omega) | exact o_sub1 rfl rfl rfl (by omega) | exact o_sub rfl rfl rfl (by omega) | exact o_mul rfl rfl rfl (by omega) | exact o_rem rfl rfl rfl (by omega) | exact ok_rem rfl rfl rfl (by decide) rfl | exact o_eqKey rfl rfl rfl | exact o_neKey rfl rfl rfl | exact o_eqVl rfl rfl rfl | exact o_neVl rfl rfl rfl | exact o_eqEnt rfl rfl rfl | exact o_neEnt rfl rfl rfl | exact o_eqMsg rfl rfl rfl | exact o_neMsg rfl rfl rfl | exact o_acall rfl rfl rfl rfl (by assumption) | exact o_minn rfl rfl rfl | exact o_cutl rfl rfl rfl rfl (by omega) | exact o_cuth rfl rfl rfl rfl (by omega) | exact o_cutl3 rfl rfl rfl rfl (by omega) | exact o_cuth3 rfl rfl rfl rfl (by omega) | exact o_cutl2 rfl rfl rfl rfl rfl (by omega) | exact o_cuth2 rfl rfl rfl rfl rfl (by omega) | exact o_cutlh2 rfl rfl rfl rfl rfl rfl rfl (by omega) (by omega) | exact o_bld zero_Opn rfl rfl rfl rfl rfl rfl rfl | exact o_bld zero_Cal rfl rfl rfl rfl rfl rfl rfl | exact o_bld zero_state rfl rfl rfl rfl rfl rfl rfl | exact o_bld zero_search rfl rfl rfl rfl rfl rfl rfl | exact o_nilcr rfl rfl | exact o_nilcp rfl rfl | exact o_eqbar rfl rfl rfl (by simp) (by simp) | exact o_ldbar rfl rfl (by simp) rfl (by first | omega | (simp; omega)) rfl | exact o_idxpn rfl rfl rfl rfl (by omega) | exact o_idxvn rfl rfl rfl rfl (by omega) (by assumption) rfl | exact o_idxrn rfl rfl rfl rfl (by omega) (by assumption) | exact o_cutarr rfl rfl rfl rfl | exact o_mkfn rfl rfl rfl | exact o_callv rfl rfl rfl rfl rfl rfl (by assumption) | exact o_bld zero_Ans rfl rfl rfl rfl rfl rfl rfl | exact o_eqAns rfl rfl rfl | exact o_neAns rfl rfl rfl | exact e_bld rfl rfl rfl | exact e_bldk rfl rfl | exact z_bld0 rfl rfl rfl rfl rfl | exact z_bld rfl rfl rfl rfl rfl rfl rfl | exact o_addu rfl rfl rfl | exact z_blda rfl rfl rfl rfl rfl rfl rfl rfl rfl | exact o_idxa rfl rfl rfl rfl rfl rfl | exact o_idxra rfl rfl rfl rfl rfl rfl rfl | exact o_quo2 rfl rfl rfl (by omega) | exact o_quo rfl rfl rfl (by omega))); (focus (first | exact want_n | exact want_g rfl (by with_reducible rfl)))) | (apply Wb; (focus (first | exact o_box rfl rfl rfl rfl | exact o_app rfl rfl rfl rfl rfl (by first | exact o_many rfl | exact o_one _ _ rfl) (by first | omega | (simp; omega) | simp) (by first | omega | (simp; omega) | simp) | exact o_appn rfl rfl rfl rfl rfl (by first | exact o_many rfl | exact o_one _ _ rfl) (by first | omega | (simp; omega) | simp) (by first | omega | (simp; omega) | simp) | exact o_app1 rfl rfl rfl rfl rfl (by first | exact o_many rfl | exact o_one _ _ rfl) (by exact rfl) (by first | omega | (simp; omega) | simp) (by first | omega | (simp; omega) | simp) | exact o_app0 rfl rfl rfl rfl rfl (by first | exact o_many rfl | exact o_one _ _ rfl) (by first | omega | (simp; omega) | simp) (by first | omega | (simp; omega) | simp) | exact o_bsl0 rfl rfl rfl | exact z_bsll rfl rfl rfl rfl rfl rfl rfl rfl rfl | exact z_alloc rfl rfl rfl | exact o_alloc zero_Opn rfl rfl | exact o_alloc zero_Cal rfl rfl | exact o_alloc zero_state rfl rfl | exact o_alloc zero_b14 rfl rfl | exact o_cpents rfl rfl rfl rfl rfl rfl (by omega) | exact o_alloc zero_Ans rfl rfl | exact o_bsll zero_Ans rfl rfl rfl rfl rfl rfl rfl rfl | exact o_bsll zero_Opn rfl rfl rfl rfl rfl rfl rfl rfl)); (focus (first | exact want_n | exact want_g rfl (by with_reducible rfl)))) | (apply Ws; (focus (first | exact o_stin rfl (by simp) rfl rfl (by first | omega | (simp; omega)) rfl | exact o_stbar rfl (by simp) rfl rfl (by first | omega | (simp; omega)) rfl | exact ok_store tabT (d := none) rfl rfl rfl rfl rfl rfl rfl rfl rfl rfl)); (focus (first | exact want_n | exact want_g rfl (by with_reducible rfl)))) | (refine Wskip (by first | exact want_f rfl (by with_reducible exact b_nt) | exact want_f rfl (by with_reducible exact b_nf) | exact want_t rfl) rfl ?_) | refine Wgt rfl rfl (by first | assumption | omega | exact rfl) ?_ | refine Wgf rfl rfl (by first | assumption | omega | exact rfl) ?_ | (refine Wgb rfl rfl (by with_reducible assumption) ?_) | (refine cb_is _ (by assumption) ?_)))))
      exact fin ⟨res_of rfl rfl rfl, trivial⟩
  · have c1i : ¬ (i : Int) < (l.length : Nat) := by omega
    have hF : [r0, r1] = lawOps l 2 := by
      rw [List.drop_of_length_le (by omega)] at hF; exact hF
    rw [← hF]
    repeat (first | (refine AW_go (S' := ⟨[(5, .seg 8 0 1 [] 2 2), (18, .v (.bool false))], [(8, .var (.agg 2 [.sl (some 101) 4 (r0.map Opn.av), .sl (some 102) 4 (r1.map Opn.av)])), (101, .tail 38 4 r0.length), (102, .tail 38 4 r1.length)]⟩) ?_ ?_; (focus ((refine Go2.sub ⟨?_, ?_, ?_⟩ <;> repeat' (first | exact True.intro | rfl | apply And.intro)); done)); refine AW_go (Go2.froz hE 8 rfl) ?_; refine AW_go (Go2.segA 5 8 (zs := [opsA r0, opsA r1]) rfl rfl (fun H => by (repeat (first | exact wkl0 | refine wkd rfl ?_ | refine wkt ?_ | refine wkn ?_))) (by simp [opsA, sizeA]) rfl) ?_) | (first | (first | refine Wend _ ?_ | refine AW_seq ?_ | refine AW_reg ?_ | refine AW_drw mixed ?_ | refine AW_block ?_ | refine AW_scope ?_ | refine thenA_n ?_ | refine blockA_n ?_ | refine blockA_h ?_ | refine scopeA_n ?_ | refine thenA_r ?_ | refine blockA_r ?_ | refine scopeA_r ?_ | refine thenA_e ?_ | refine scopeA_e ?_ | refine blockA_e rfl ?_ | refine AW_exit ?_ | refine AW_ret ?_ | refine AW_skip ?_ | refine AW_c rfl ?_ | with_reducible refine cb_t ?_ | with_reducible refine cb_f ?_ | with_reducible refine cb_yes (by first | assumption | omega) ?_ | with_reducible refine cb_no (by first | assumption | omega) ?_ | refine And.intro (by decide +kernel) ?_) | (first | (apply Wb; (focus (first | exact on_make rfl rfl rfl rfl rfl rfl rfl rfl (by omega) (by omega))); (focus (first | exact want_n | exact want_g rfl (by with_reducible rfl)))) | (apply Wv; (focus (first | exact on_idx rfl rfl rfl rfl rfl rfl (by first | rfl | assumption | omega | (simp; done) | (simp; omega)) (by first | rfl | assumption | omega | (simp; done) | (simp; omega)) | exact on_ld rfl rfl rfl (by first | rfl | assumption | omega | (simp; done) | (simp; omega)) (by first | rfl | assumption | omega | (simp; done) | (simp; omega)) rfl)); (focus (first | exact want_n | exact want_g rfl (by with_reducible rfl)))) | (apply Ws; (focus (exact on_st rfl rfl rfl (by first | rfl | assumption | omega | (simp; done) | (simp; omega)) (by first | rfl | assumption | omega | (simp; done) | (simp; omega)) rfl)); (focus (first | exact want_n | exact want_g rfl (by with_reducible rfl)))) | (first | (apply Wv; (focus (first | exact step_ok rfl rfl | exact o_idx rfl rfl rfl rfl (by first | assumption | omega | decide) | exact o_idx3 rfl rfl rfl rfl (by first | assumption | omega | decide) | exact o_idx2 rfl rfl rfl rfl rfl (by first | assumption | omega | decide) | exact o_idxr rfl rfl rfl rfl rfl rfl | exact o_lenm rfl rfl rfl | exact o_len rfl rfl rfl | exact o_len0 rfl rfl rfl | exact o_lens rfl rfl rfl | exact o_lent rfl rfl | exact o_add1 rfl rfl rfl (by omega) | exact o_addn rfl rfl rfl (by omega) | exact o_add rfl rfl rfl (by omega) | exact o_sub1 rfl rfl rfl (by omega) | exact o_sub rfl rfl rfl (by omega) | exact o_mul rfl rfl rfl (by omega) | exact o_rem rfl rfl rfl (by omega) | exact ok_rem rfl rfl rfl (by decide) rfl | exact o_eqKey rfl rfl rfl | exact o_neKey rfl rfl rfl | exact o_eqVl rfl rfl rfl | exact o_neVl rfl rfl rfl | exact o_eqEnt rfl rfl rfl | exact o_neEnt rfl rfl rfl | exact o_eqMsg rfl rfl rfl | exact o_neMsg rfl rfl rfl | exact o_acall rfl rfl rfl rfl (by assumption) | exact o_minn rfl rfl rfl | exact o_cutl rfl rfl rfl rfl (by omega) | exact o_cuth rfl rfl rfl rfl (by omega) | exact o_cutl3 rfl rfl rfl rfl (by omega) | exact o_cuth3 rfl rfl rfl rfl (by omega) | exact o_cutl2 rfl rfl rfl rfl rfl (by omega) | exact o_cuth2 rfl rfl rfl rfl rfl (by omega) | exact o_cutlh2 rfl rfl rfl rfl rfl rfl rfl (by omega) (by omega) | exact o_bld zero_Opn rfl rfl rfl rfl rfl rfl rfl | exact o_bld zero_Cal rfl rfl rfl rfl rfl rfl rfl | exact o_bld zero_state rfl rfl rfl rfl rfl rfl rfl | exact o_bld zero_search rfl rfl rfl rfl rfl rfl rfl | exact o_nilcr rfl rfl | exact o_nilcp rfl rfl | exact o_eqbar rfl rfl rfl (by simp) (by simp) | exact o_ldbar rfl rfl (by simp) rfl (by first | omega | (simp; omega)) rfl | exact o_idxpn rfl rfl rfl rfl (by omega) | exact o_idxvn rfl rfl rfl rfl (by omega) (by assumption) rfl | exact o_idxrn rfl rfl rfl rfl (by omega) (by assumption) | exact o_cutarr rfl rfl rfl rfl | exact o_mkfn rfl rfl rfl | exact o_callv rfl rfl rfl rfl rfl rfl (by assumption) | exact o_bld zero_Ans rfl rfl rfl rfl rfl rfl rfl | exact o_eqAns rfl rfl rfl | exact o_neAns rfl rfl rfl | exact e_bld rfl rfl rfl | exact e_bldk rfl rfl | exact z_bld0 rfl rfl rfl rfl rfl | exact z_bld rfl rfl rfl rfl rfl rfl rfl | exact o_addu rfl rfl rfl | exact z_blda rfl rfl rfl rfl rfl rfl rfl rfl rfl | exact o_idxa rfl rfl rfl rfl rfl rfl | exact o_idxra rfl rfl rfl rfl rfl rfl rfl | exact o_quo2 rfl rfl rfl (by omega) | exact o_quo rfl rfl rfl (by omega))); (focus (first | exact want_n | exact want_g rfl (by with_reducible rfl)))) | (apply Wb; (focus (first | exact o_box rfl rfl rfl rfl | exact o_app rfl rfl rfl rfl rfl (by first | exact o_many rfl | exact o_one _ _ rfl) (by first | omega | (simp; omega) | simp) (by first | omega | (simp; omega) | simp) | exact o_appn rfl rfl rfl rfl rfl (by first | exact o_many rfl | exact o_one _ _ rfl) (by first | omega | (simp; omega) | simp) (by first | omega | (simp; omega) | simp) | exact o_app1 rfl rfl rfl rfl rfl (by first | exact o_many rfl | exact o_one _ _ rfl) (by exact rfl) (by first | omega | (simp; omega) | simp) (by first | omega | (simp; omega) | simp) | exact o_app0 rfl rfl rfl rfl rfl (by first | exact o_many rfl | exact o_one _ _ rfl) (by first | omega | (simp; omega) | simp) (by first | omega | (simp; omega) | simp) | exact o_bsl0 rfl rfl rfl | exact z_bsll rfl rfl rfl rfl rfl rfl rfl rfl rfl | exact z_alloc rfl rfl rfl | exact o_alloc zero_Opn rfl rfl | exact o_alloc zero_Cal rfl rfl | exact o_alloc zero_state rfl rfl | exact o_alloc zero_b14 rfl rfl | exact o_cpents rfl rfl rfl rfl rfl rfl (by omega) | exact o_alloc zero_Ans rfl rfl | exact o_bsll zero_Ans rfl rfl rfl rfl rfl rfl rfl rfl | exact o_bsll zero_Opn rfl rfl rfl rfl rfl rfl rfl rfl)); (focus (first | exact want_n | exact want_g rfl (by with_reducible rfl)))) | (apply Ws; (focus (first | exact o_stin rfl (by simp) rfl rfl (by first | omega | (simp; omega)) rfl | exact o_stbar rfl (by simp) rfl rfl (by first | omega | (simp; omega)) rfl | exact ok_store tabT (d := none) rfl rfl rfl rfl rfl rfl rfl rfl rfl rfl)); (focus (first | exact want_n | exact want_g rfl (by with_reducible rfl)))) | (refine Wskip (by first | exact want_f rfl (by with_reducible exact b_nt) | exact want_f rfl (by with_reducible exact b_nf) | exact want_t rfl) rfl ?_) | refine Wgt rfl rfl (by first | assumption | omega | exact rfl) ?_ | refine Wgf rfl rfl (by first | assumption | omega | exact rfl) ?_ | (refine Wgb rfl rfl (by with_reducible assumption) ?_) | (refine cb_is _ (by assumption) ?_)))))
    exact fin ⟨res_of rfl rfl rfl, trivial⟩
set_option maxRecDepth 100000 in
set_option maxHeartbeats 16000000 in
theorem a_lops3 (l : List Int) (hv : ∀ v ∈ l, -9223372036854775808 ≤ v ∧ v ≤ 9223372036854775807) (hl : l.length ≤ 1000000000000000) : AFn Try.prog 23 [intsA l, intA 3] (opsLA (lawOps l 3)) := by
  refine AFn_intro Try.func23 rfl Try.ntmps23 rfl (by simp) [_] rfl fun E hE => ?_
  have hnt : (!true) = false := rfl
  have hnf : (!false) = true := rfl
  repeat (first | (apply Wb; (focus (exact o_makeN (n := 3) rfl rfl zero_slops rfl rfl rfl (by omega) (by omega))); (focus (first | exact want_n | exact want_g rfl (by with_reducible rfl)))) | (first | (first | refine Wend _ ?_ | refine AW_seq ?_ | refine AW_reg ?_ | refine AW_drw mixed ?_ | refine AW_block ?_ | refine AW_scope ?_ | refine thenA_n ?_ | refine blockA_n ?_ | refine blockA_h ?_ | refine scopeA_n ?_ | refine thenA_r ?_ | refine blockA_r ?_ | refine scopeA_r ?_ | refine thenA_e ?_ | refine scopeA_e ?_ | refine blockA_e rfl ?_ | refine AW_exit ?_ | refine AW_ret ?_ | refine AW_skip ?_ | refine AW_c rfl ?_ | with_reducible refine cb_t ?_ | with_reducible refine cb_f ?_ | with_reducible refine cb_yes (by first | assumption | omega) ?_ | with_reducible refine cb_no (by first | assumption | omega) ?_ | refine And.intro (by decide +kernel) ?_) | (first | (apply Wb; (focus (first | exact on_make rfl rfl rfl rfl rfl rfl rfl rfl (by omega) (by omega))); (focus (first | exact want_n | exact want_g rfl (by with_reducible rfl)))) | (apply Wv; (focus (first | exact on_idx rfl rfl rfl rfl rfl rfl (by first | rfl | assumption | omega | (simp; done) | (simp; omega)) (by first | rfl | assumption | omega | (simp; done) | (simp; omega)) | exact on_ld rfl rfl rfl (by first | rfl | assumption | omega | (simp; done) | (simp; omega)) (by first | rfl | assumption | omega | (simp; done) | (simp; omega)) rfl)); (focus (first | exact want_n | exact want_g rfl (by with_reducible rfl)))) | (apply Ws; (focus (exact on_st rfl rfl rfl (by first | rfl | assumption | omega | (simp; done) | (simp; omega)) (by first | rfl | assumption | omega | (simp; done) | (simp; omega)) rfl)); (focus (first | exact want_n | exact want_g rfl (by with_reducible rfl)))) | (first | (apply Wv; (focus (first | exact step_ok rfl rfl | exact o_idx rfl rfl rfl rfl (by first | assumption | omega | decide) | exact o_idx3 rfl rfl rfl rfl (by first | assumption | omega | decide) | exact o_idx2 rfl rfl rfl rfl rfl (by first | assumption | omega | decide) | exact o_idxr rfl rfl rfl rfl rfl rfl | exact o_lenm rfl rfl rfl | exact o_len rfl rfl rfl | exact o_len0 rfl rfl rfl | exact o_lens rfl rfl rfl | exact o_lent rfl rfl | exact o_add1 rfl rfl rfl (by omega) | exact o_addn rfl rfl rfl (by omega) | exact o_add rfl rfl rfl (by omega) | exact o_sub1 rfl rfl rfl (by omega) | exact o_sub rfl rfl rfl (by omega) | exact o_mul rfl rfl rfl (by omega) | exact o_rem rfl rfl rfl (by omega) | exact ok_rem rfl rfl rfl (by decide) rfl | exact o_eqKey rfl rfl rfl | exact o_neKey rfl rfl rfl | exact o_eqVl rfl rfl rfl | exact o_neVl rfl rfl rfl | exact o_eqEnt rfl rfl rfl | exact o_neEnt rfl rfl rfl | exact o_eqMsg rfl rfl rfl | exact o_neMsg rfl rfl rfl | exact o_acall rfl rfl rfl rfl (by assumption) | exact o_minn rfl rfl rfl | exact o_cutl rfl rfl rfl rfl (by omega) | exact o_cuth rfl rfl rfl rfl (by omega) | exact o_cutl3 rfl rfl rfl rfl (by omega) | exact o_cuth3 rfl rfl rfl rfl (by omega) | exact o_cutl2 rfl rfl rfl rfl rfl (by omega) | exact o_cuth2 rfl rfl rfl rfl rfl (by omega) | exact o_cutlh2 rfl rfl rfl rfl rfl rfl rfl (by omega) (by omega) | exact o_bld zero_Opn rfl rfl rfl rfl rfl rfl rfl | exact o_bld zero_Cal rfl rfl rfl rfl rfl rfl rfl | exact o_bld zero_state rfl rfl rfl rfl rfl rfl rfl | exact o_bld zero_search rfl rfl rfl rfl rfl rfl rfl | exact o_nilcr rfl rfl | exact o_nilcp rfl rfl | exact o_eqbar rfl rfl rfl (by simp) (by simp) | exact o_ldbar rfl rfl (by simp) rfl (by first | omega | (simp; omega)) rfl | exact o_idxpn rfl rfl rfl rfl (by omega) | exact o_idxvn rfl rfl rfl rfl (by omega) (by assumption) rfl | exact o_idxrn rfl rfl rfl rfl (by omega) (by assumption) | exact o_cutarr rfl rfl rfl rfl | exact o_mkfn rfl rfl rfl | exact o_callv rfl rfl rfl rfl rfl rfl (by assumption) | exact o_bld zero_Ans rfl rfl rfl rfl rfl rfl rfl | exact o_eqAns rfl rfl rfl | exact o_neAns rfl rfl rfl | exact e_bld rfl rfl rfl | exact e_bldk rfl rfl | exact z_bld0 rfl rfl rfl rfl rfl | exact z_bld rfl rfl rfl rfl rfl rfl rfl | exact o_addu rfl rfl rfl | exact z_blda rfl rfl rfl rfl rfl rfl rfl rfl rfl | exact o_idxa rfl rfl rfl rfl rfl rfl | exact o_idxra rfl rfl rfl rfl rfl rfl rfl | exact o_quo2 rfl rfl rfl (by omega) | exact o_quo rfl rfl rfl (by omega))); (focus (first | exact want_n | exact want_g rfl (by with_reducible rfl)))) | (apply Wb; (focus (first | exact o_box rfl rfl rfl rfl | exact o_app rfl rfl rfl rfl rfl (by first | exact o_many rfl | exact o_one _ _ rfl) (by first | omega | (simp; omega) | simp) (by first | omega | (simp; omega) | simp) | exact o_appn rfl rfl rfl rfl rfl (by first | exact o_many rfl | exact o_one _ _ rfl) (by first | omega | (simp; omega) | simp) (by first | omega | (simp; omega) | simp) | exact o_app1 rfl rfl rfl rfl rfl (by first | exact o_many rfl | exact o_one _ _ rfl) (by exact rfl) (by first | omega | (simp; omega) | simp) (by first | omega | (simp; omega) | simp) | exact o_app0 rfl rfl rfl rfl rfl (by first | exact o_many rfl | exact o_one _ _ rfl) (by first | omega | (simp; omega) | simp) (by first | omega | (simp; omega) | simp) | exact o_bsl0 rfl rfl rfl | exact z_bsll rfl rfl rfl rfl rfl rfl rfl rfl rfl | exact z_alloc rfl rfl rfl | exact o_alloc zero_Opn rfl rfl | exact o_alloc zero_Cal rfl rfl | exact o_alloc zero_state rfl rfl | exact o_alloc zero_b14 rfl rfl | exact o_cpents rfl rfl rfl rfl rfl rfl (by omega) | exact o_alloc zero_Ans rfl rfl | exact o_bsll zero_Ans rfl rfl rfl rfl rfl rfl rfl rfl | exact o_bsll zero_Opn rfl rfl rfl rfl rfl rfl rfl rfl)); (focus (first | exact want_n | exact want_g rfl (by with_reducible rfl)))) | (apply Ws; (focus (first | exact o_stin rfl (by simp) rfl rfl (by first | omega | (simp; omega)) rfl | exact o_stbar rfl (by simp) rfl rfl (by first | omega | (simp; omega)) rfl | exact ok_store tabT (d := none) rfl rfl rfl rfl rfl rfl rfl rfl rfl rfl)); (focus (first | exact want_n | exact want_g rfl (by with_reducible rfl)))) | (refine Wskip (by first | exact want_f rfl (by with_reducible exact b_nt) | exact want_f rfl (by with_reducible exact b_nf) | exact want_t rfl) rfl ?_) | refine Wgt rfl rfl (by first | assumption | omega | exact rfl) ?_ | refine Wgf rfl rfl (by first | assumption | omega | exact rfl) ?_ | (refine Wgb rfl rfl (by with_reducible assumption) ?_) | (refine cb_is _ (by assumption) ?_)))))
  refine AW_go (Go2.tokenX (y0 := .agg 3 [.sl (some 101) 4 [], .v (.slice none 0 0), .v (.slice none 0 0)]) 8 101 3 38 rfl rfl (fun U w B H' cs h1 h2 hr => aggTok h1 h2 ([]) ([.v (.slice none 0 0), .v (.slice none 0 0)]) (arrAgg rfl 3 hr))) ?_
  refine AW_go (Go2.tokenX (y0 := .agg 3 [.sl (some 101) 4 [], .sl (some 102) 4 [], .v (.slice none 0 0)]) 8 102 3 38 rfl rfl (fun U w B H' cs h1 h2 hr => aggTok h1 h2 ([.sl (some 101) 4 []]) ([.v (.slice none 0 0)]) (hr))) ?_
  refine AW_go (Go2.tokenX (y0 := .agg 3 [.sl (some 101) 4 [], .sl (some 102) 4 [], .sl (some 103) 4 []]) 8 103 3 38 rfl rfl (fun U w B H' cs h1 h2 hr => aggTok h1 h2 ([.sl (some 101) 4 [], .sl (some 102) 4 []]) ([]) (hr))) ?_
  refine AW_loopI (fun x : Nat × List Opn × List Opn × List Opn => ⟨[(0, intsA l), (1, intA 3), (5, .seg 8 0 1 [] 3 3), (6, intA (x.1 : Nat))], [(8, .var (.agg 3 [.sl (some 101) 4 (x.2.1.map Opn.av), .sl (some 102) 4 (x.2.2.1.map Opn.av), .sl (some 103) 4 (x.2.2.2.map Opn.av)])), (101, .tail 38 4 x.2.1.length), (102, .tail 38 4 x.2.2.1.length), (103, .tail 38 4 x.2.2.2.length)]⟩) (fun x => x.1 ≤ (l.take 72).length ∧ x.2.1.length ≤ x.1 ∧ x.2.2.1.length ≤ x.1 ∧ x.2.2.2.length ≤ x.1 ∧ opsGo 3 x.1 [x.2.1, x.2.2.1, x.2.2.2] ((l.take 72).drop x.1) = lawOps l 3) (fun x => (l.take 72).length - x.1) (0, [], [], []) ⟨Nat.zero_le _, Nat.le_refl _, Nat.le_refl _, Nat.le_refl _, rfl⟩ (by (refine Go2.sub ⟨?_, ?_, ?_⟩ <;> repeat' (first | exact True.intro | rfl | apply And.intro))) (fun x hx => ?_)
  obtain ⟨i, r0, r1, r2⟩ := x
  obtain ⟨hi, hr0, hr1, hr2, hF⟩ := hx
  dsimp only at hi hr0 hr1 hr2 hF ⊢
  have htl : (l.take 72).length = min 72 l.length := List.length_take
  by_cases c1 : i < l.length
  · by_cases c2 : i < 72
    · have c2i : (i : Int) < 72 := by omega
      have hlt : i < (l.take 72).length := by omega
      have hvi := hv l[i] (List.getElem_mem c1)
      have co := a_lop l[i] hvi
      have hget : (l.take 72)[i] = l[i] := List.getElem_take
      rw [List.drop_eq_getElem_cons hlt, hget] at hF
      have d1 := acall Try.func26 (co) (by decide +kernel) (by decide +kernel)
      have hmod : i % 3 = 0 ∨ i % 3 = 1 ∨ i % 3 = 2 := by omega
      rcases hmod with hk | hk | hk
      · have hF : opsGo 3 (i + 1) [(r0 ++ [lawOp l[i]]), r1, r2] ((l.take 72).drop (i + 1)) = lawOps l 3 := by
          rw [← hF]; show _ = opsGo 3 (i + 1) ([r0, r1, r2].set (i % 3) ([r0, r1, r2].getD (i % 3) [] ++ [lawOp l[i]])) _; rw [hk]; rfl
        have hki : (i : Int) % 3 = ((0 : Nat) : Int) := by omega
        refine wOE ?_
        rw [hki]
        (apply Wv; (focus (exact o_idxs (i := 0) rfl rfl rfl rfl (by omega))); (focus (first | exact want_n | exact want_g rfl (by with_reducible rfl))))
        refine wOE ?_
        refine ⟨(i + 1, (r0 ++ [lawOp l[i]]), r1, r2), ⟨hlt, by simp; omega, by show r1.length ≤ i + 1; omega, by show r2.length ≤ i + 1; omega, hF⟩, by show (l.take 72).length - (i + 1) < (l.take 72).length - i; omega, ?_⟩
        (refine Go2.sub ⟨?_, ?_, ?_⟩ <;> repeat' (first | exact True.intro | rfl | apply And.intro))
      · have hF : opsGo 3 (i + 1) [r0, (r1 ++ [lawOp l[i]]), r2] ((l.take 72).drop (i + 1)) = lawOps l 3 := by
          rw [← hF]; show _ = opsGo 3 (i + 1) ([r0, r1, r2].set (i % 3) ([r0, r1, r2].getD (i % 3) [] ++ [lawOp l[i]])) _; rw [hk]; rfl
        have hki : (i : Int) % 3 = ((1 : Nat) : Int) := by omega
        refine wOE ?_
        rw [hki]
        (apply Wv; (focus (exact o_idxs (i := 1) rfl rfl rfl rfl (by omega))); (focus (first | exact want_n | exact want_g rfl (by with_reducible rfl))))
        refine wOE ?_
        refine ⟨(i + 1, r0, (r1 ++ [lawOp l[i]]), r2), ⟨hlt, by show r0.length ≤ i + 1; omega, by simp; omega, by show r2.length ≤ i + 1; omega, hF⟩, by show (l.take 72).length - (i + 1) < (l.take 72).length - i; omega, ?_⟩
        (refine Go2.sub ⟨?_, ?_, ?_⟩ <;> repeat' (first | exact True.intro | rfl | apply And.intro))
      · have hF : opsGo 3 (i + 1) [r0, r1, (r2 ++ [lawOp l[i]])] ((l.take 72).drop (i + 1)) = lawOps l 3 := by
          rw [← hF]; show _ = opsGo 3 (i + 1) ([r0, r1, r2].set (i % 3) ([r0, r1, r2].getD (i % 3) [] ++ [lawOp l[i]])) _; rw [hk]; rfl
        have hki : (i : Int) % 3 = ((2 : Nat) : Int) := by omega
        refine wOE ?_
        rw [hki]
        (apply Wv; (focus (exact o_idxs (i := 2) rfl rfl rfl rfl (by omega))); (focus (first | exact want_n | exact want_g rfl (by with_reducible rfl))))
        refine wOE ?_
        refine ⟨(i + 1, r0, r1, (r2 ++ [lawOp l[i]])), ⟨hlt, by show r0.length ≤ i + 1; omega, by show r1.length ≤ i + 1; omega, by simp; omega, hF⟩, by show (l.take 72).length - (i + 1) < (l.take 72).length - i; omega, ?_⟩
        (refine Go2.sub ⟨?_, ?_, ?_⟩ <;> repeat' (first | exact True.intro | rfl | apply And.intro))
    · have c2i : ¬ (i : Int) < 72 := by omega
      have hF : [r0, r1, r2] = lawOps l 3 := by
        rw [List.drop_of_length_le (by omega)] at hF; exact hF
      rw [← hF]
      repeat (first | (refine AW_go (S' := ⟨[(5, .seg 8 0 1 [] 3 3), (18, .v (.bool (decide ((i : Int) < 3 * 24))))], [(8, .var (.agg 3 [.sl (some 101) 4 (r0.map Opn.av), .sl (some 102) 4 (r1.map Opn.av), .sl (some 103) 4 (r2.map Opn.av)])), (101, .tail 38 4 r0.length), (102, .tail 38 4 r1.length), (103, .tail 38 4 r2.length)]⟩) ?_ ?_; (focus ((refine Go2.sub ⟨?_, ?_, ?_⟩ <;> repeat' (first | exact True.intro | rfl | apply And.intro)); done)); refine AW_go (Go2.froz hE 8 rfl) ?_; refine AW_go (Go2.segA 5 8 (zs := [opsA r0, opsA r1, opsA r2]) rfl rfl (fun H => by (repeat (first | exact wkl0 | refine wkd rfl ?_ | refine wkt ?_ | refine wkn ?_))) (by simp [opsA, sizeA]) rfl) ?_) | (first | (first | refine Wend _ ?_ | refine AW_seq ?_ | refine AW_reg ?_ | refine AW_drw mixed ?_ | refine AW_block ?_ | refine AW_scope ?_ | refine thenA_n ?_ | refine blockA_n ?_ | refine blockA_h ?_ | refine scopeA_n ?_ | refine thenA_r ?_ | refine blockA_r ?_ | refine scopeA_r ?_ | refine thenA_e ?_ | refine scopeA_e ?_ | refine blockA_e rfl ?_ | refine AW_exit ?_ | refine AW_ret ?_ | refine AW_skip ?_ | refine AW_c rfl ?_ | with_reducible refine cb_t ?_ | with_reducible refine cb_f ?_ | with_reducible refine cb_yes (by first | assumption | omega) ?_ | with_reducible refine cb_no (by first | assumption | omega) ?_ | refine And.intro (by decide +kernel) ?_) | (first | (apply Wb; (focus (first | exact on_make rfl rfl rfl rfl rfl rfl rfl rfl (by omega) (by omega))); (focus (first | exact want_n | exact want_g rfl (by with_reducible rfl)))) | (apply Wv; (focus (first | exact on_idx rfl rfl rfl rfl rfl rfl (by first | rfl | assumption | omega | (simp; done) | (simp; omega)) (by first | rfl | assumption | omega | (simp; done) | (simp; omega)) | exact on_ld rfl rfl rfl (by first | rfl | assumption | omega | (simp; done) | (simp; omega)) (by first | rfl | assumption | omega | (simp; done) | (simp; omega)) rfl)); (focus (first | exact want_n | exact want_g rfl (by with_reducible rfl)))) | (apply Ws; (focus (exact on_st rfl rfl rfl (by first | rfl | assumption | omega | (simp; done) | (simp; omega)) (by first | rfl | assumption | omega | (simp; done) | (simp; omega)) rfl)); (focus (first | exact want_n | exact want_g rfl (by with_reducible rfl)))) | (first | (apply Wv; (focus (first | exact step_ok rfl rfl | exact o_idx rfl rfl rfl rfl (by first | assumption | omega | decide) | exact o_idx3 rfl rfl rfl rfl (by first | assumption | omega | decide) | exact o_idx2 rfl rfl rfl rfl rfl (by first | assumption | omega | decide) | exact o_idxr rfl rfl rfl rfl rfl rfl | exact o_lenm rfl rfl rfl | exact o_len rfl rfl rfl | exact o_len0 rfl rfl rfl | exact o_lens rfl rfl rfl | exact o_lent rfl rfl | exact o_add1 rfl rfl rfl (by omega) | exact o_addn rfl rfl rfl (by omega) | exact o_add rfl rfl rfl (by omega) | exact o_sub1 rfl rfl rfl (by omega) | exact o_sub rfl rfl rfl (by omega) | exact o_mul rfl rfl rfl (by omega) | exact o_rem rfl rfl rfl (by omega) | exact ok_rem rfl rfl rfl (by decide) rfl | exact o_eqKey rfl rfl rfl | exact o_neKey rfl rfl rfl | exact o_eqVl rfl rfl rfl | exact o_neVl rfl rfl rfl | exact o_eqEnt rfl rfl rfl | exact o_neEnt rfl rfl rfl | exact o_eqMsg rfl rfl rfl | exact o_neMsg rfl rfl rfl | exact o_acall rfl rfl rfl rfl (by assumption) | exact o_minn rfl rfl rfl | exact o_cutl rfl rfl rfl rfl (by omega) | exact o_cuth rfl rfl rfl rfl (by omega) | exact o_cutl3 rfl rfl rfl rfl (by omega) | exact o_cuth3 rfl rfl rfl rfl (by omega) | exact o_cutl2 rfl rfl rfl rfl rfl (by omega) | exact o_cuth2 rfl rfl rfl rfl rfl (by omega) | exact o_cutlh2 rfl rfl rfl rfl rfl rfl rfl (by omega) (by omega) | exact o_bld zero_Opn rfl rfl rfl rfl rfl rfl rfl | exact o_bld zero_Cal rfl rfl rfl rfl rfl rfl rfl | exact o_bld zero_state rfl rfl rfl rfl rfl rfl rfl | exact o_bld zero_search rfl rfl rfl rfl rfl rfl rfl | exact o_nilcr rfl rfl | exact o_nilcp rfl rfl | exact o_eqbar rfl rfl rfl (by simp) (by simp) | exact o_ldbar rfl rfl (by simp) rfl (by first | omega | (simp; omega)) rfl | exact o_idxpn rfl rfl rfl rfl (by omega) | exact o_idxvn rfl rfl rfl rfl (by omega) (by assumption) rfl | exact o_idxrn rfl rfl rfl rfl (by omega) (by assumption) | exact o_cutarr rfl rfl rfl rfl | exact o_mkfn rfl rfl rfl | exact o_callv rfl rfl rfl rfl rfl rfl (by assumption) | exact o_bld zero_Ans rfl rfl rfl rfl rfl rfl rfl | exact o_eqAns rfl rfl rfl | exact o_neAns rfl rfl rfl | exact e_bld rfl rfl rfl | exact e_bldk rfl rfl | exact z_bld0 rfl rfl rfl rfl rfl | exact z_bld rfl rfl rfl rfl rfl rfl rfl | exact o_addu rfl rfl rfl | exact z_blda rfl rfl rfl rfl rfl rfl rfl rfl rfl | exact o_idxa rfl rfl rfl rfl rfl rfl | exact o_idxra rfl rfl rfl rfl rfl rfl rfl | exact o_quo2 rfl rfl rfl (by omega) | exact o_quo rfl rfl rfl (by omega))); (focus (first | exact want_n | exact want_g rfl (by with_reducible rfl)))) | (apply Wb; (focus (first | exact o_box rfl rfl rfl rfl | exact o_app rfl rfl rfl rfl rfl (by first | exact o_many rfl | exact o_one _ _ rfl) (by first | omega | (simp; omega) | simp) (by first | omega | (simp; omega) | simp) | exact o_appn rfl rfl rfl rfl rfl (by first | exact o_many rfl | exact o_one _ _ rfl) (by first | omega | (simp; omega) | simp) (by first | omega | (simp; omega) | simp) | exact o_app1 rfl rfl rfl rfl rfl (by first | exact o_many rfl | exact o_one _ _ rfl) (by exact rfl) (by first | omega | (simp; omega) | simp) (by first | omega | (simp; omega) | simp) | exact o_app0 rfl rfl rfl rfl rfl (by first | exact o_many rfl | exact o_one _ _ rfl) (by first | omega | (simp; omega) | simp) (by first | omega | (simp; omega) | simp) | exact o_bsl0 rfl rfl rfl | exact z_bsll rfl rfl rfl rfl rfl rfl rfl rfl rfl | exact z_alloc rfl rfl rfl | exact o_alloc zero_Opn rfl rfl | exact o_alloc zero_Cal rfl rfl | exact o_alloc zero_state rfl rfl | exact o_alloc zero_b14 rfl rfl | exact o_cpents rfl rfl rfl rfl rfl rfl (by omega) | exact o_alloc zero_Ans rfl rfl | exact o_bsll zero_Ans rfl rfl rfl rfl rfl rfl rfl rfl | exact o_bsll zero_Opn rfl rfl rfl rfl rfl rfl rfl rfl)); (focus (first | exact want_n | exact want_g rfl (by with_reducible rfl)))) | (apply Ws; (focus (first | exact o_stin rfl (by simp) rfl rfl (by first | omega | (simp; omega)) rfl | exact o_stbar rfl (by simp) rfl rfl (by first | omega | (simp; omega)) rfl | exact ok_store tabT (d := none) rfl rfl rfl rfl rfl rfl rfl rfl rfl rfl)); (focus (first | exact want_n | exact want_g rfl (by with_reducible rfl)))) | (refine Wskip (by first | exact want_f rfl (by with_reducible exact b_nt) | exact want_f rfl (by with_reducible exact b_nf) | exact want_t rfl) rfl ?_) | refine Wgt rfl rfl (by first | assumption | omega | exact rfl) ?_ | refine Wgf rfl rfl (by first | assumption | omega | exact rfl) ?_ | (refine Wgb rfl rfl (by with_reducible assumption) ?_) | (refine cb_is _ (by assumption) ?_)))))
      exact fin ⟨res_of rfl rfl rfl, trivial⟩
  · have c1i : ¬ (i : Int) < (l.length : Nat) := by omega
    have hF : [r0, r1, r2] = lawOps l 3 := by
      rw [List.drop_of_length_le (by omega)] at hF; exact hF
    rw [← hF]
    repeat (first | (refine AW_go (S' := ⟨[(5, .seg 8 0 1 [] 3 3), (18, .v (.bool false))], [(8, .var (.agg 3 [.sl (some 101) 4 (r0.map Opn.av), .sl (some 102) 4 (r1.map Opn.av), .sl (some 103) 4 (r2.map Opn.av)])), (101, .tail 38 4 r0.length), (102, .tail 38 4 r1.length), (103, .tail 38 4 r2.length)]⟩) ?_ ?_; (focus ((refine Go2.sub ⟨?_, ?_, ?_⟩ <;> repeat' (first | exact True.intro | rfl | apply And.intro)); done)); refine AW_go (Go2.froz hE 8 rfl) ?_; refine AW_go (Go2.segA 5 8 (zs := [opsA r0, opsA r1, opsA r2]) rfl rfl (fun H => by (repeat (first | exact wkl0 | refine wkd rfl ?_ | refine wkt ?_ | refine wkn ?_))) (by simp [opsA, sizeA]) rfl) ?_) | (first | (first | refine Wend _ ?_ | refine AW_seq ?_ | refine AW_reg ?_ | refine AW_drw mixed ?_ | refine AW_block ?_ | refine AW_scope ?_ | refine thenA_n ?_ | refine blockA_n ?_ | refine blockA_h ?_ | refine scopeA_n ?_ | refine thenA_r ?_ | refine blockA_r ?_ | refine scopeA_r ?_ | refine thenA_e ?_ | refine scopeA_e ?_ | refine blockA_e rfl ?_ | refine AW_exit ?_ | refine AW_ret ?_ | refine AW_skip ?_ | refine AW_c rfl ?_ | with_reducible refine cb_t ?_ | with_reducible refine cb_f ?_ | with_reducible refine cb_yes (by first | assumption | omega) ?_ | with_reducible refine cb_no (by first | assumption | omega) ?_ | refine And.intro (by decide +kernel) ?_) | (first | (apply Wb; (focus (first | exact on_make rfl rfl rfl rfl rfl rfl rfl rfl (by omega) (by omega))); (focus (first | exact want_n | exact want_g rfl (by with_reducible rfl)))) | (apply Wv; (focus (first | exact on_idx rfl rfl rfl rfl rfl rfl (by first | rfl | assumption | omega | (simp; done) | (simp; omega)) (by first | rfl | assumption | omega | (simp; done) | (simp; omega)) | exact on_ld rfl rfl rfl (by first | rfl | assumption | omega | (simp; done) | (simp; omega)) (by first | rfl | assumption | omega | (simp; done) | (simp; omega)) rfl)); (focus (first | exact want_n | exact want_g rfl (by with_reducible rfl)))) | (apply Ws; (focus (exact on_st rfl rfl rfl (by first | rfl | assumption | omega | (simp; done) | (simp; omega)) (by first | rfl | assumption | omega | (simp; done) | (simp; omega)) rfl)); (focus (first | exact want_n | exact want_g rfl (by with_reducible rfl)))) | (first | (apply Wv; (focus (first | exact step_ok rfl rfl | exact o_idx rfl rfl rfl rfl (by first | assumption | omega | decide) | exact o_idx3 rfl rfl rfl rfl (by first | assumption | omega | decide) | exact o_idx2 rfl rfl rfl rfl rfl (by first | assumption | omega | decide) | exact o_idxr rfl rfl rfl rfl rfl rfl | exact o_lenm rfl rfl rfl | exact o_len rfl rfl rfl | exact o_len0 rfl rfl rfl | exact o_lens rfl rfl rfl | exact o_lent rfl rfl | exact o_add1 rfl rfl rfl (by omega) | exact o_addn rfl rfl rfl (by omega) | exact o_add rfl rfl rfl (by omega) | exact o_sub1 rfl rfl rfl (by omega) | exact o_sub rfl rfl rfl (by omega) | exact o_mul rfl rfl rfl (by omega) | exact o_rem rfl rfl rfl (by omega) | exact ok_rem rfl rfl rfl (by decide) rfl | exact o_eqKey rfl rfl rfl | exact o_neKey rfl rfl rfl | exact o_eqVl rfl rfl rfl | exact o_neVl rfl rfl rfl | exact o_eqEnt rfl rfl rfl | exact o_neEnt rfl rfl rfl | exact o_eqMsg rfl rfl rfl | exact o_neMsg rfl rfl rfl | exact o_acall rfl rfl rfl rfl (by assumption) | exact o_minn rfl rfl rfl | exact o_cutl rfl rfl rfl rfl (by omega) | exact o_cuth rfl rfl rfl rfl (by omega) | exact o_cutl3 rfl rfl rfl rfl (by omega) | exact o_cuth3 rfl rfl rfl rfl (by omega) | exact o_cutl2 rfl rfl rfl rfl rfl (by omega) | exact o_cuth2 rfl rfl rfl rfl rfl (by omega) | exact o_cutlh2 rfl rfl rfl rfl rfl rfl rfl (by omega) (by omega) | exact o_bld zero_Opn rfl rfl rfl rfl rfl rfl rfl | exact o_bld zero_Cal rfl rfl rfl rfl rfl rfl rfl | exact o_bld zero_state rfl rfl rfl rfl rfl rfl rfl | exact o_bld zero_search rfl rfl rfl rfl rfl rfl rfl | exact o_nilcr rfl rfl | exact o_nilcp rfl rfl | exact o_eqbar rfl rfl rfl (by simp) (by simp) | exact o_ldbar rfl rfl (by simp) rfl (by first | omega | (simp; omega)) rfl | exact o_idxpn rfl rfl rfl rfl (by omega) | exact o_idxvn rfl rfl rfl rfl (by omega) (by assumption) rfl | exact o_idxrn rfl rfl rfl rfl (by omega) (by assumption) | exact o_cutarr rfl rfl rfl rfl | exact o_mkfn rfl rfl rfl | exact o_callv rfl rfl rfl rfl rfl rfl (by assumption) | exact o_bld zero_Ans rfl rfl rfl rfl rfl rfl rfl | exact o_eqAns rfl rfl rfl | exact o_neAns rfl rfl rfl | exact e_bld rfl rfl rfl | exact e_bldk rfl rfl | exact z_bld0 rfl rfl rfl rfl rfl | exact z_bld rfl rfl rfl rfl rfl rfl rfl | exact o_addu rfl rfl rfl | exact z_blda rfl rfl rfl rfl rfl rfl rfl rfl rfl | exact o_idxa rfl rfl rfl rfl rfl rfl | exact o_idxra rfl rfl rfl rfl rfl rfl rfl | exact o_quo2 rfl rfl rfl (by omega) | exact o_quo rfl rfl rfl (by omega))); (focus (first | exact want_n | exact want_g rfl (by with_reducible rfl)))) | (apply Wb; (focus (first | exact o_box rfl rfl rfl rfl | exact o_app rfl rfl rfl rfl rfl (by first | exact o_many rfl | exact o_one _ _ rfl) (by first | omega | (simp; omega) | simp) (by first | omega | (simp; omega) | simp) | exact o_appn rfl rfl rfl rfl rfl (by first | exact o_many rfl | exact o_one _ _ rfl) (by first | omega | (simp; omega) | simp) (by first | omega | (simp; omega) | simp) | exact o_app1 rfl rfl rfl rfl rfl (by first | exact o_many rfl | exact o_one _ _ rfl) (by exact rfl) (by first | omega | (simp; omega) | simp) (by first | omega | (simp; omega) | simp) | exact o_app0 rfl rfl rfl rfl rfl (by first | exact o_many rfl | exact o_one _ _ rfl) (by first | omega | (simp; omega) | simp) (by first | omega | (simp; omega) | simp) | exact o_bsl0 rfl rfl rfl | exact z_bsll rfl rfl rfl rfl rfl rfl rfl rfl rfl | exact z_alloc rfl rfl rfl | exact o_alloc zero_Opn rfl rfl | exact o_alloc zero_Cal rfl rfl | exact o_alloc zero_state rfl rfl | exact o_alloc zero_b14 rfl rfl | exact o_cpents rfl rfl rfl rfl rfl rfl (by omega) | exact o_alloc zero_Ans rfl rfl | exact o_bsll zero_Ans rfl rfl rfl rfl rfl rfl rfl rfl | exact o_bsll zero_Opn rfl rfl rfl rfl rfl rfl rfl rfl)); (focus (first | exact want_n | exact want_g rfl (by with_reducible rfl)))) | (apply Ws; (focus (first | exact o_stin rfl (by simp) rfl rfl (by first | omega | (simp; omega)) rfl | exact o_stbar rfl (by simp) rfl rfl (by first | omega | (simp; omega)) rfl | exact ok_store tabT (d := none) rfl rfl rfl rfl rfl rfl rfl rfl rfl rfl)); (focus (first | exact want_n | exact want_g rfl (by with_reducible rfl)))) | (refine Wskip (by first | exact want_f rfl (by with_reducible exact b_nt) | exact want_f rfl (by with_reducible exact b_nf) | exact want_t rfl) rfl ?_) | refine Wgt rfl rfl (by first | assumption | omega | exact rfl) ?_ | refine Wgf rfl rfl (by first | assumption | omega | exact rfl) ?_ | (refine Wgb rfl rfl (by with_reducible assumption) ?_) | (refine cb_is _ (by assumption) ?_)))))
    exact fin ⟨res_of rfl rfl rfl, trivial⟩
end Go.Proofs.Ytphojngdgmnpaaa

namespace Go.Proofs.Ytphojngdgmnpaaa
open Go Go.RowKit
set_option linter.unusedVariables false
set_option linter.unusedSimpArgs false
set_option maxRecDepth 100000
set_option linter.unusedSectionVars false
/-- an answer by a number -/
def toldA (o : Opn) (k : Nat) : Ans :=
  let a : Ans := if large o = true then ⟨2, false, Vl.zero⟩ else if o.kind = 4 ∧ k % 2 = 0 then ⟨0, true, lawVl (k : Int)⟩ else if o.kind ≠ 4 ∧ k % 8 = 0 then ⟨3, false, Vl.zero⟩ else Ans.zero
  if k = 63 then { a with code := 7 } else a
def toldGo (ops : List (List Opn)) : List Int → List Nat → List Nat → List Evt
  | [], _, _ => []
  | v :: vs, b, d =>
    let c := (v % (ops.length : Int)).toNat
    let k := (v.tdiv 8 % 64).toNat
    if d.getD c 0 < b.getD c 0 then ⟨(c : Int), (d.getD c 0 : Nat), true, toldA (hOpAt ops c (d.getD c 0)) k⟩ :: toldGo ops vs b (d.set c (d.getD c 0 + 1))
    else if b.getD c 0 < (ops.getD c []).length then ⟨(c : Int), (b.getD c 0 : Nat), false, Ans.zero⟩ :: toldGo ops vs (b.set c (b.getD c 0 + 1)) d
    else toldGo ops vs b d
def toldC (ops : List (List Opn)) (l : List Int) : List Evt := toldGo ops l (List.replicate ops.length 0) (List.replicate ops.length 0)
theorem toldGo_len (ops : List (List Opn)) : ∀ (l : List Int) (b d : List Nat), (toldGo ops l b d).length ≤ l.length
  | [], b, d => Nat.le_refl _
  | v :: vs, b, d => by
    unfold toldGo
    dsimp only
    split
    · simpa using toldGo_len ops vs b _
    · split
      · simpa using toldGo_len ops vs _ d
      · exact Nat.le_succ_of_le (toldGo_len ops vs b d)
theorem toldC_len (ops : List (List Opn)) (l : List Int) : (toldC ops l).length ≤ l.length := toldGo_len ops l _ _
/-- how counts go on: what is done is begun, what is begun is there -/
def CntOk (ops : List (List Opn)) (b d : List Nat) : Prop := b.length = ops.length ∧ d.length = ops.length ∧ ∀ c (h : c < ops.length) (hb : c < b.length) (hd : c < d.length), d[c] ≤ b[c] ∧ b[c] ≤ (ops[c]).length
theorem cnt_zero (ops : List (List Opn)) : CntOk ops (List.replicate ops.length 0) (List.replicate ops.length 0) := ⟨by simp, by simp, fun c h hb hd => by simp⟩
theorem cnt_d {ops : List (List Opn)} {b d : List Nat} {c : Nat} (h : CntOk ops b d) (hb : c < b.length) (hd : c < d.length) (hlt : d[c] < b[c]) : CntOk ops b (d.set c (d[c] + 1)) := by
  obtain ⟨h1, h2, h3⟩ := h
  refine ⟨h1, by simpa using h2, fun c' q1 q2 q3 => ?_⟩
  have := h3 c' q1 q2 (by simpa using q3)
  rw [List.getElem_set]
  split
  · rename_i e; subst e; omega
  · exact this
theorem cnt_b {ops : List (List Opn)} {b d : List Nat} {c : Nat} (h : CntOk ops b d) (hc : c < ops.length) (hb : c < b.length) (hd : c < d.length) (hlt : b[c] < (ops[c]).length) : CntOk ops (b.set c (b[c] + 1)) d := by
  obtain ⟨h1, h2, h3⟩ := h
  refine ⟨by simpa using h1, h2, fun c' q1 q2 q3 => ?_⟩
  have := h3 c' q1 (by simpa using q2) q3
  rw [List.getElem_set]
  split
  · rename_i e; subst e; omega
  · exact this
attribute [local irreducible] OpOK AWops AW CondB Go2 AFn thenA inBlockA noGotoA orderOk wantedA
set_option maxRecDepth 100000 in
set_option maxHeartbeats 16000000 in
theorem a_told (ops : List (List Opn)) (l : List Int) (hv : ∀ v ∈ l, -9223372036854775808 ≤ v ∧ v ≤ 9223372036854775807) (hl : l.length ≤ 80) (h0 : 0 < ops.length) (hn : ops.length ≤ 1000) (hrow : ∀ r ∈ ops, r.length ≤ 1000) : AFn Try.prog 25 [opsLA ops, intsA l] (evtsA (toldC ops l)) := by
  have h0i : (0 : Int) < (ops.length : Nat) := by omega
  refine AFn_intro Try.func25 rfl Try.ntmps25 rfl (by simp) [_] rfl fun E hE => ?_
  have hnt : (!true) = false := rfl
  have hnf : (!false) = true := rfl
  refine wON ?_
  refine AW_go (Go2.token 5 5 21 89 rfl rfl) ?_
  refine AW_loopI (fun x : Nat × List Nat × List Nat × List Evt => ⟨[(0, opsLA ops), (1, intsA l), (5, .sl (some 5) 22 (x.2.2.2.map Evt.av)), (6, .own 15 1 ops.length .row), (7, .own 18 1 ops.length .row), (8, intA (x.1 : Nat))], [(15, .own 3 1 (x.2.1.map natA)), (18, .own 3 1 (x.2.2.1.map natA)), (5, .tail 89 22 x.2.2.2.length)]⟩) (fun x => x.1 ≤ l.length ∧ CntOk ops x.2.1 x.2.2.1 ∧ x.2.2.2.length ≤ x.1 ∧ x.2.2.2 ++ toldGo ops (l.drop x.1) x.2.1 x.2.2.1 = toldC ops l) (fun x => l.length - x.1) (0, List.replicate ops.length 0, List.replicate ops.length 0, []) ⟨Nat.zero_le _, cnt_zero ops, Nat.le_refl _, rfl⟩ (by (refine Go2.sub ⟨?_, ?_, ?_⟩ <;> repeat' (first | exact True.intro | rfl | apply And.intro))) (fun x hx => ?_)
  obtain ⟨i, b, d, acc⟩ := x
  obtain ⟨hi, hcnt, hal, hF⟩ := hx
  dsimp only at hi hcnt hal hF ⊢
  obtain ⟨hbl, hdl, hbd⟩ := id hcnt
  by_cases c1 : i < l.length
  · have c1b : i < 80 := by omega
    rw [List.drop_eq_getElem_cons c1] at hF
    have hvi := hv l[i] (List.getElem_mem c1)
    have cp := a_lplace l[i] (ops.length : Nat) h0i (by omega) hvi
    have hq : l[i].tdiv 8 = if 0 ≤ l[i] then l[i] / 8 else -((-l[i]) / 8) := by
      split
      · exact Int.tdiv_eq_ediv_of_nonneg (by assumption)
      · have : l[i] = -(-l[i]) := by omega
        rw [this, Int.neg_tdiv, Int.tdiv_eq_ediv_of_nonneg (by omega)]
        simp
    have ck := a_lplace (l[i].tdiv 8) 64 (by omega) (by omega) (by rw [hq]; split <;> omega)
    unfold toldGo at hF
    dsimp only at hF
    obtain ⟨c, hc⟩ : ∃ c : Nat, l[i] % (ops.length : Int) = (c : Int) := ⟨(l[i] % (ops.length : Int)).toNat, (Int.toNat_of_nonneg (Int.emod_nonneg _ (by omega))).symm⟩
    have hcn : c < ops.length := by
      have := Int.emod_lt_of_pos l[i] h0i
      rw [hc] at this; omega
    obtain ⟨k, hk⟩ : ∃ k : Nat, l[i].tdiv 8 % 64 = (k : Int) := ⟨(l[i].tdiv 8 % 64).toNat, by omega⟩
    have hk64 : k < 64 := by omega
    rw [hc] at cp
    rw [hk] at ck
    rw [hc, hk, Int.toNat_natCast, Int.toNat_natCast] at hF
    clear hk hc
    have hcb : c < b.length := by omega
    have hcd : c < d.length := by omega
    obtain ⟨hdb, hbo⟩ := hbd c hcn hcb hcd
    have hro := hrow ops[c] (List.getElem_mem hcn)
    have hln1 : ops.length = b.length := hbl.symm
    have hln2 : ops.length = d.length := hdl.symm
    rw [getD_get hcb, getD_get hcd, getD_get hcn] at hF
    have d1 := acall Try.func17 (cp) (by decide +kernel) (by decide +kernel)
    have d2 := acall Try.func17 (ck) (by decide +kernel) (by decide +kernel)
    refine wOE ?_
    by_cases c2 : d[c] < b[c]
    · have c2i : ((d[c] : Nat) : Int) < (b[c] : Nat) := by omega
      rw [if_pos c2] at hF
      have hkn : d[c] < (ops[c]).length := by omega
      rw [hOpAt_get hcn hkn] at hF
      obtain ⟨o, ho⟩ : ∃ o, (ops[c])[d[c]] = o := ⟨_, rfl⟩
      rw [ho] at hF
      have cl := a_ref23large o
      have cv := a_lval (k : Int) (by omega)
      have hcnt2 := cnt_d hcnt hcb hcd c2
      have d4 := acall Try.func21 (cv) (by decide +kernel) (by decide +kernel)
      have hend : ∀ A : Ans, toldA o k = A → (acc ++ [⟨(c : Int), ((d[c] : Nat) : Int), true, A⟩]) ++ toldGo ops (l.drop (i + 1)) b (d.set c (d[c] + 1)) = toldC ops l := fun A hA => by
        rw [← hF, hA, List.append_assoc]; rfl
      have d3 := acall Try.func27 (cl) (by decide +kernel) (by decide +kernel)
      refine wOE ?_
      cases hlg : large o
      · by_cases k4 : o.kind = 4
        · refine wOE ?_
          by_cases ke : k % 2 = 0
          · have kei : ((k : Nat) : Int) % 2 = 0 := by omega
            refine wOE ?_
            by_cases k63 : k = 63
            · omega
            · have k63i : ¬ ((k : Nat) : Int) = 63 := by omega
              have hA : toldA o k = ⟨0, true, lawVl (k : Int)⟩ := by unfold toldA; simp [hlg, k4, ke, k63]
              refine wOE ?_
              (apply Wb; (focus (exact o_app (f := Evt.av) (tk := 5) (xs := acc) (zs := [⟨(c : Int), ((d[c] : Nat) : Int), true, ⟨0, true, lawVl (k : Int)⟩⟩]) rfl rfl rfl rfl rfl (by exact o_one Evt.av (⟨(c : Int), ((d[c] : Nat) : Int), true, ⟨0, true, lawVl (k : Int)⟩⟩) rfl) (by simp; omega) (by simp; omega))); (focus (first | exact want_n | exact want_g rfl (by with_reducible rfl))))
              refine wOE ?_
              refine ⟨(i + 1, b, d.set c (d[c] + 1), acc ++ [⟨(c : Int), ((d[c] : Nat) : Int), true, ⟨0, true, lawVl (k : Int)⟩⟩]), ⟨c1, hcnt2, by simp; omega, hend _ hA⟩, by show l.length - (i + 1) < l.length - i; omega, ?_⟩
              (refine Go2.sub ⟨?_, ?_, ?_⟩ <;> repeat' (first | exact True.intro | rfl | apply And.intro))
          · have kei : ¬ ((k : Nat) : Int) % 2 = 0 := by omega
            refine wOE ?_
            by_cases k63 : k = 63
            · subst k63
              have hA : toldA o 63 = ⟨7, false, Vl.zero⟩ := by unfold toldA; simp [hlg, k4, Ans.zero]
              refine wOE ?_
              (apply Wb; (focus (exact o_app (f := Evt.av) (tk := 5) (xs := acc) (zs := [⟨(c : Int), ((d[c] : Nat) : Int), true, ⟨7, false, Vl.zero⟩⟩]) rfl rfl rfl rfl rfl (by exact o_one Evt.av (⟨(c : Int), ((d[c] : Nat) : Int), true, ⟨7, false, Vl.zero⟩⟩) rfl) (by simp; omega) (by simp; omega))); (focus (first | exact want_n | exact want_g rfl (by with_reducible rfl))))
              refine wOE ?_
              refine ⟨(i + 1, b, d.set c (d[c] + 1), acc ++ [⟨(c : Int), ((d[c] : Nat) : Int), true, ⟨7, false, Vl.zero⟩⟩]), ⟨c1, hcnt2, by simp; omega, hend _ hA⟩, by show l.length - (i + 1) < l.length - i; omega, ?_⟩
              (refine Go2.sub ⟨?_, ?_, ?_⟩ <;> repeat' (first | exact True.intro | rfl | apply And.intro))
            · have k63i : ¬ ((k : Nat) : Int) = 63 := by omega
              have hA : toldA o k = Ans.zero := by unfold toldA; simp [hlg, k4, ke, k63]
              refine wOE ?_
              (apply Wb; (focus (exact o_app (f := Evt.av) (tk := 5) (xs := acc) (zs := [⟨(c : Int), ((d[c] : Nat) : Int), true, Ans.zero⟩]) rfl rfl rfl rfl rfl (by exact o_one Evt.av (⟨(c : Int), ((d[c] : Nat) : Int), true, Ans.zero⟩) rfl) (by simp; omega) (by simp; omega))); (focus (first | exact want_n | exact want_g rfl (by with_reducible rfl))))
              refine wOE ?_
              refine ⟨(i + 1, b, d.set c (d[c] + 1), acc ++ [⟨(c : Int), ((d[c] : Nat) : Int), true, Ans.zero⟩]), ⟨c1, hcnt2, by simp; omega, hend _ hA⟩, by show l.length - (i + 1) < l.length - i; omega, ?_⟩
              (refine Go2.sub ⟨?_, ?_, ?_⟩ <;> repeat' (first | exact True.intro | rfl | apply And.intro))
        · refine wOE ?_
          by_cases ke : k % 8 = 0
          · have kei : ((k : Nat) : Int) % 8 = 0 := by omega
            refine wOE ?_
            by_cases k63 : k = 63
            · omega
            · have k63i : ¬ ((k : Nat) : Int) = 63 := by omega
              have hA : toldA o k = ⟨3, false, Vl.zero⟩ := by unfold toldA; simp [hlg, k4, ke, k63]
              refine wOE ?_
              (apply Wb; (focus (exact o_app (f := Evt.av) (tk := 5) (xs := acc) (zs := [⟨(c : Int), ((d[c] : Nat) : Int), true, ⟨3, false, Vl.zero⟩⟩]) rfl rfl rfl rfl rfl (by exact o_one Evt.av (⟨(c : Int), ((d[c] : Nat) : Int), true, ⟨3, false, Vl.zero⟩⟩) rfl) (by simp; omega) (by simp; omega))); (focus (first | exact want_n | exact want_g rfl (by with_reducible rfl))))
              refine wOE ?_
              refine ⟨(i + 1, b, d.set c (d[c] + 1), acc ++ [⟨(c : Int), ((d[c] : Nat) : Int), true, ⟨3, false, Vl.zero⟩⟩]), ⟨c1, hcnt2, by simp; omega, hend _ hA⟩, by show l.length - (i + 1) < l.length - i; omega, ?_⟩
              (refine Go2.sub ⟨?_, ?_, ?_⟩ <;> repeat' (first | exact True.intro | rfl | apply And.intro))
          · have kei : ¬ ((k : Nat) : Int) % 8 = 0 := by omega
            refine wOE ?_
            by_cases k63 : k = 63
            · subst k63
              have hA : toldA o 63 = ⟨7, false, Vl.zero⟩ := by unfold toldA; simp [hlg, k4, Ans.zero]
              refine wOE ?_
              (apply Wb; (focus (exact o_app (f := Evt.av) (tk := 5) (xs := acc) (zs := [⟨(c : Int), ((d[c] : Nat) : Int), true, ⟨7, false, Vl.zero⟩⟩]) rfl rfl rfl rfl rfl (by exact o_one Evt.av (⟨(c : Int), ((d[c] : Nat) : Int), true, ⟨7, false, Vl.zero⟩⟩) rfl) (by simp; omega) (by simp; omega))); (focus (first | exact want_n | exact want_g rfl (by with_reducible rfl))))
              refine wOE ?_
              refine ⟨(i + 1, b, d.set c (d[c] + 1), acc ++ [⟨(c : Int), ((d[c] : Nat) : Int), true, ⟨7, false, Vl.zero⟩⟩]), ⟨c1, hcnt2, by simp; omega, hend _ hA⟩, by show l.length - (i + 1) < l.length - i; omega, ?_⟩
              (refine Go2.sub ⟨?_, ?_, ?_⟩ <;> repeat' (first | exact True.intro | rfl | apply And.intro))
            · have k63i : ¬ ((k : Nat) : Int) = 63 := by omega
              have hA : toldA o k = Ans.zero := by unfold toldA; simp [hlg, k4, ke, k63]
              refine wOE ?_
              (apply Wb; (focus (exact o_app (f := Evt.av) (tk := 5) (xs := acc) (zs := [⟨(c : Int), ((d[c] : Nat) : Int), true, Ans.zero⟩]) rfl rfl rfl rfl rfl (by exact o_one Evt.av (⟨(c : Int), ((d[c] : Nat) : Int), true, Ans.zero⟩) rfl) (by simp; omega) (by simp; omega))); (focus (first | exact want_n | exact want_g rfl (by with_reducible rfl))))
              refine wOE ?_
              refine ⟨(i + 1, b, d.set c (d[c] + 1), acc ++ [⟨(c : Int), ((d[c] : Nat) : Int), true, Ans.zero⟩]), ⟨c1, hcnt2, by simp; omega, hend _ hA⟩, by show l.length - (i + 1) < l.length - i; omega, ?_⟩
              (refine Go2.sub ⟨?_, ?_, ?_⟩ <;> repeat' (first | exact True.intro | rfl | apply And.intro))
      ·
        refine wOE ?_
        by_cases k63 : k = 63
        · subst k63
          have hA : toldA o 63 = ⟨7, false, Vl.zero⟩ := by unfold toldA; simp [hlg]
          refine wOE ?_
          (apply Wb; (focus (exact o_app (f := Evt.av) (tk := 5) (xs := acc) (zs := [⟨(c : Int), ((d[c] : Nat) : Int), true, ⟨7, false, Vl.zero⟩⟩]) rfl rfl rfl rfl rfl (by exact o_one Evt.av (⟨(c : Int), ((d[c] : Nat) : Int), true, ⟨7, false, Vl.zero⟩⟩) rfl) (by simp; omega) (by simp; omega))); (focus (first | exact want_n | exact want_g rfl (by with_reducible rfl))))
          refine wOE ?_
          refine ⟨(i + 1, b, d.set c (d[c] + 1), acc ++ [⟨(c : Int), ((d[c] : Nat) : Int), true, ⟨7, false, Vl.zero⟩⟩]), ⟨c1, hcnt2, by simp; omega, hend _ hA⟩, by show l.length - (i + 1) < l.length - i; omega, ?_⟩
          (refine Go2.sub ⟨?_, ?_, ?_⟩ <;> repeat' (first | exact True.intro | rfl | apply And.intro))
        · have k63i : ¬ ((k : Nat) : Int) = 63 := by omega
          have hA : toldA o k = ⟨2, false, Vl.zero⟩ := by unfold toldA; simp [hlg, k63]
          refine wOE ?_
          (apply Wb; (focus (exact o_app (f := Evt.av) (tk := 5) (xs := acc) (zs := [⟨(c : Int), ((d[c] : Nat) : Int), true, ⟨2, false, Vl.zero⟩⟩]) rfl rfl rfl rfl rfl (by exact o_one Evt.av (⟨(c : Int), ((d[c] : Nat) : Int), true, ⟨2, false, Vl.zero⟩⟩) rfl) (by simp; omega) (by simp; omega))); (focus (first | exact want_n | exact want_g rfl (by with_reducible rfl))))
          refine wOE ?_
          refine ⟨(i + 1, b, d.set c (d[c] + 1), acc ++ [⟨(c : Int), ((d[c] : Nat) : Int), true, ⟨2, false, Vl.zero⟩⟩]), ⟨c1, hcnt2, by simp; omega, hend _ hA⟩, by show l.length - (i + 1) < l.length - i; omega, ?_⟩
          (refine Go2.sub ⟨?_, ?_, ?_⟩ <;> repeat' (first | exact True.intro | rfl | apply And.intro))
    · have c2i : ¬ ((d[c] : Nat) : Int) < (b[c] : Nat) := by omega
      rw [if_neg c2] at hF
      by_cases c3 : b[c] < (ops[c]).length
      · have c3i : ((b[c] : Nat) : Int) < ((ops[c]).length : Nat) := by omega
        rw [if_pos c3] at hF
        have hcnt2 := cnt_b hcnt hcn hcb hcd c3
        refine wOE ?_
        (apply Wb; (focus (exact o_app (f := Evt.av) (tk := 5) (xs := acc) (zs := [⟨(c : Int), ((b[c] : Nat) : Int), false, Ans.zero⟩]) rfl rfl rfl rfl rfl (by exact o_one Evt.av (⟨(c : Int), ((b[c] : Nat) : Int), false, Ans.zero⟩) rfl) (by simp; omega) (by simp; omega))); (focus (first | exact want_n | exact want_g rfl (by with_reducible rfl))))
        refine wOE ?_
        refine ⟨(i + 1, b.set c (b[c] + 1), d, acc ++ [⟨(c : Int), ((b[c] : Nat) : Int), false, Ans.zero⟩]), ⟨c1, hcnt2, by simp; omega, by rw [← hF]; show (acc ++ [_]) ++ _ = _; rw [List.append_assoc]; rfl⟩, by show l.length - (i + 1) < l.length - i; omega, ?_⟩
        (refine Go2.sub ⟨?_, ?_, ?_⟩ <;> repeat' (first | exact True.intro | rfl | apply And.intro))
      · have c3i : ¬ ((b[c] : Nat) : Int) < ((ops[c]).length : Nat) := by omega
        rw [if_neg c3] at hF
        refine wOE ?_
        refine ⟨(i + 1, b, d, acc), ⟨c1, hcnt, by show acc.length ≤ i + 1; omega, hF⟩, by show l.length - (i + 1) < l.length - i; omega, ?_⟩
        (refine Go2.sub ⟨?_, ?_, ?_⟩ <;> repeat' (first | exact True.intro | rfl | apply And.intro))
  · obtain rfl : i = l.length := by omega
    rw [List.drop_length] at hF
    have hF : acc = toldC ops l := by rw [← hF]; exact (List.append_nil acc).symm
    rw [← hF]
    refine wON ?_
    exact fin ⟨res_sl rfl, trivial⟩
end Go.Proofs.Ytphojngdgmnpaaa

namespace Go.Proofs.Ytphojngdgmnpaaa
open Go Go.RowKit
set_option linter.unusedVariables false
set_option linter.unusedSimpArgs false
set_option maxRecDepth 100000
set_option linter.unusedSectionVars false
theorem opsGo_row (n : Nat) : ∀ (vs : List Int) (i : Nat) (r : List (List Opn)) (M : Nat), (∀ x ∈ r, x.length ≤ M) → ∀ x ∈ opsGo n i r vs, x.length ≤ M + vs.length
  | [], i, r, M, h, x, hx => h x hx
  | v :: vs, i, r, M, h, x, hx => by
    have h2 : ∀ x ∈ r.set (i % n) (r.getD (i % n) [] ++ [lawOp v]), x.length ≤ M + 1 := fun y hy => by
      rcases List.mem_or_eq_of_mem_set hy with h1 | h1
      · exact Nat.le_succ_of_le (h y h1)
      · rw [h1, List.length_append, List.length_singleton]
        have : (r.getD (i % n) []).length ≤ M := by
          by_cases hlt : i % n < r.length
          · rw [getD_get hlt]; exact h _ (List.getElem_mem hlt)
          · rw [List.getD_eq_getElem?_getD, List.getElem?_eq_none (by omega)]; exact Nat.zero_le _
        omega
    have := opsGo_row n vs (i + 1) _ (M + 1) h2 x hx
    simp at this ⊢; omega
theorem lawOps_row (l : List Int) (n : Nat) : ∀ x ∈ lawOps l n, x.length ≤ n * 24 := fun x hx => by
  have := opsGo_row n (l.take (n * 24)) 0 (List.replicate n []) 0 (fun y hy => by rw [(List.mem_replicate.1 hy).2]; exact Nat.le_refl _) x hx
  rw [List.length_take] at this
  omega
attribute [local irreducible] OpOK AWops AW CondB Go2 AFn thenA inBlockA noGotoA orderOk wantedA
set_option maxRecDepth 100000 in
set_option maxHeartbeats 16000000 in
theorem a_lhists (n : Int) (hn : -9223372036854775808 ≤ n ∧ n ≤ 9223372036854775807) (ops l : List Int) (ho : ∀ v ∈ ops, -9223372036854775808 ≤ v ∧ v ≤ 9223372036854775807) (hol : ops.length ≤ 17592186043904) (hl : ∀ v ∈ l, -9223372036854775808 ≤ v ∧ v ≤ 9223372036854775807) :
    AFn Try.prog 8 [intA n, intsA ops, intsA l] (boolA true) := by
  have key : ∀ k : Nat, 1 ≤ k → k ≤ 3 → AFn Try.prog 23 [intsA ops, .v (.int .i64 (1 + (k - 1 : Nat)))] (opsLA (lawOps ops k)) → AFn Try.prog 17 [intA n, intA 3] (intA ((k - 1 : Nat) : Int)) → AFn Try.prog 8 [intA n, intsA ops, intsA l] (boolA true) := by
    intro k k1 k3 co cp
    have hlen := lawOps_len ops k
    have hrow := lawOps_row ops k
    generalize lawOps ops k = O at co hlen hrow
    have ct := a_told O (l.take (min l.length 9)) (fun v hv => hl v (List.mem_of_mem_take hv)) (by rw [List.length_take]; omega) (by omega) (by omega) (fun r hr => by have := hrow r hr; omega)
    have hev := toldC_len O (l.take (min l.length 9))
    rw [List.length_take] at hev
    generalize toldC O (l.take (min l.length 9)) = ev at ct hev
    have cc := a_hcalls ev O (by omega) (by omega)
    have hcl := callsH_len ev O
    generalize callsH ev O = c at cc hcl
    have hc9 : c.length ≤ 9 := by omega
    have f1 := a_find c
    have f2 := a_reffind c
    have ct' : AFn Try.prog 25 [opsLA O, .sl none 1 ((l.take (min l.length 9)).map intA)] (evtsA ev) := ct
    cases hf : findC c with
    | none =>
      rw [hf] at f1 f2
      have f3 := a_lsame [] [] (by simp) (by simp)
      rw [decide_eq_true rfl] at f3
      have f1' : AFn Try.prog 13 [calsA c] (.tup [numsA [], boolA false]) := f1
      have f2' : AFn Try.prog 14 [calsA c] (.tup [numsA [], boolA false]) := f2
      clear f1 f2
      have g2 : false = false := rfl
      refine AFn_intro Try.func8 rfl Try.ntmps8 rfl (by simp) [_] rfl fun E hE => ?_
      have hnt : (!true) = false := rfl
      have hnf : (!false) = true := rfl
      have d1 := acall Try.func17 (cp) (by decide +kernel) (by decide +kernel)
      have d2 := acall Try.func23 (co) (by decide +kernel) (by decide +kernel)
      have d3 := acall Try.func25 (ct') (by decide +kernel) (by decide +kernel)
      have d4 := acall Try.func24 (cc) (by decide +kernel) (by decide +kernel)
      have d5 := acall Try.func13 (f1') (by decide +kernel) (by decide +kernel)
      have d6 := acall Try.func14 (f2') (by decide +kernel) (by decide +kernel)
      have d7 := acall Try.func16 (f3) (by decide +kernel) (by decide +kernel)
      have d8 := acall Try.func12 (a_awake25) (by decide +kernel) (by decide +kernel)
      repeat (first | (apply Wv; (focus (exact o_cuth rfl rfl rfl rfl (by omega))); (focus (first | exact want_n | exact want_g rfl (by with_reducible rfl)))) | (first | (first | refine Wend _ ?_ | refine AW_seq ?_ | refine AW_reg ?_ | refine AW_drw mixed ?_ | refine AW_block ?_ | refine AW_scope ?_ | refine thenA_n ?_ | refine blockA_n ?_ | refine blockA_h ?_ | refine scopeA_n ?_ | refine thenA_r ?_ | refine blockA_r ?_ | refine scopeA_r ?_ | refine thenA_e ?_ | refine scopeA_e ?_ | refine blockA_e rfl ?_ | refine AW_exit ?_ | refine AW_ret ?_ | refine AW_skip ?_ | refine AW_c rfl ?_ | with_reducible refine cb_t ?_ | with_reducible refine cb_f ?_ | with_reducible refine cb_yes (by first | assumption | omega) ?_ | with_reducible refine cb_no (by first | assumption | omega) ?_ | refine And.intro (by decide +kernel) ?_) | (first | (apply Wb; (focus (first | exact on_make rfl rfl rfl rfl rfl rfl rfl rfl (by omega) (by omega))); (focus (first | exact want_n | exact want_g rfl (by with_reducible rfl)))) | (apply Wv; (focus (first | exact on_idx rfl rfl rfl rfl rfl rfl (by first | rfl | assumption | omega | (simp; done) | (simp; omega)) (by first | rfl | assumption | omega | (simp; done) | (simp; omega)) | exact on_ld rfl rfl rfl (by first | rfl | assumption | omega | (simp; done) | (simp; omega)) (by first | rfl | assumption | omega | (simp; done) | (simp; omega)) rfl)); (focus (first | exact want_n | exact want_g rfl (by with_reducible rfl)))) | (apply Ws; (focus (exact on_st rfl rfl rfl (by first | rfl | assumption | omega | (simp; done) | (simp; omega)) (by first | rfl | assumption | omega | (simp; done) | (simp; omega)) rfl)); (focus (first | exact want_n | exact want_g rfl (by with_reducible rfl)))) | (first | (apply Wv; (focus (first | exact step_ok rfl rfl | exact o_idx rfl rfl rfl rfl (by first | assumption | omega | decide) | exact o_idx3 rfl rfl rfl rfl (by first | assumption | omega | decide) | exact o_idx2 rfl rfl rfl rfl rfl (by first | assumption | omega | decide) | exact o_idxr rfl rfl rfl rfl rfl rfl | exact o_lenm rfl rfl rfl | exact o_len rfl rfl rfl | exact o_len0 rfl rfl rfl | exact o_lens rfl rfl rfl | exact o_lent rfl rfl | exact o_add1 rfl rfl rfl (by omega) | exact o_addn rfl rfl rfl (by omega) | exact o_add rfl rfl rfl (by omega) | exact o_sub1 rfl rfl rfl (by omega) | exact o_sub rfl rfl rfl (by omega) | exact o_mul rfl rfl rfl (by omega) | exact o_rem rfl rfl rfl (by omega) | exact ok_rem rfl rfl rfl (by decide) rfl | exact o_eqKey rfl rfl rfl | exact o_neKey rfl rfl rfl | exact o_eqVl rfl rfl rfl | exact o_neVl rfl rfl rfl | exact o_eqEnt rfl rfl rfl | exact o_neEnt rfl rfl rfl | exact o_eqMsg rfl rfl rfl | exact o_neMsg rfl rfl rfl | exact o_acall rfl rfl rfl rfl (by assumption) | exact o_minn rfl rfl rfl | exact o_cutl rfl rfl rfl rfl (by omega) | exact o_cuth rfl rfl rfl rfl (by omega) | exact o_cutl3 rfl rfl rfl rfl (by omega) | exact o_cuth3 rfl rfl rfl rfl (by omega) | exact o_cutl2 rfl rfl rfl rfl rfl (by omega) | exact o_cuth2 rfl rfl rfl rfl rfl (by omega) | exact o_cutlh2 rfl rfl rfl rfl rfl rfl rfl (by omega) (by omega) | exact o_bld zero_Opn rfl rfl rfl rfl rfl rfl rfl | exact o_bld zero_Cal rfl rfl rfl rfl rfl rfl rfl | exact o_bld zero_state rfl rfl rfl rfl rfl rfl rfl | exact o_bld zero_search rfl rfl rfl rfl rfl rfl rfl | exact o_nilcr rfl rfl | exact o_nilcp rfl rfl | exact o_eqbar rfl rfl rfl (by simp) (by simp) | exact o_ldbar rfl rfl (by simp) rfl (by first | omega | (simp; omega)) rfl | exact o_idxpn rfl rfl rfl rfl (by omega) | exact o_idxvn rfl rfl rfl rfl (by omega) (by assumption) rfl | exact o_idxrn rfl rfl rfl rfl (by omega) (by assumption) | exact o_cutarr rfl rfl rfl rfl | exact o_mkfn rfl rfl rfl | exact o_callv rfl rfl rfl rfl rfl rfl (by assumption) | exact o_bld zero_Ans rfl rfl rfl rfl rfl rfl rfl | exact o_eqAns rfl rfl rfl | exact o_neAns rfl rfl rfl | exact e_bld rfl rfl rfl | exact e_bldk rfl rfl | exact z_bld0 rfl rfl rfl rfl rfl | exact z_bld rfl rfl rfl rfl rfl rfl rfl | exact o_addu rfl rfl rfl | exact z_blda rfl rfl rfl rfl rfl rfl rfl rfl rfl | exact o_idxa rfl rfl rfl rfl rfl rfl | exact o_idxra rfl rfl rfl rfl rfl rfl rfl | exact o_quo2 rfl rfl rfl (by omega) | exact o_quo rfl rfl rfl (by omega))); (focus (first | exact want_n | exact want_g rfl (by with_reducible rfl)))) | (apply Wb; (focus (first | exact o_box rfl rfl rfl rfl | exact o_app rfl rfl rfl rfl rfl (by first | exact o_many rfl | exact o_one _ _ rfl) (by first | omega | (simp; omega) | simp) (by first | omega | (simp; omega) | simp) | exact o_appn rfl rfl rfl rfl rfl (by first | exact o_many rfl | exact o_one _ _ rfl) (by first | omega | (simp; omega) | simp) (by first | omega | (simp; omega) | simp) | exact o_app1 rfl rfl rfl rfl rfl (by first | exact o_many rfl | exact o_one _ _ rfl) (by exact rfl) (by first | omega | (simp; omega) | simp) (by first | omega | (simp; omega) | simp) | exact o_app0 rfl rfl rfl rfl rfl (by first | exact o_many rfl | exact o_one _ _ rfl) (by first | omega | (simp; omega) | simp) (by first | omega | (simp; omega) | simp) | exact o_bsl0 rfl rfl rfl | exact z_bsll rfl rfl rfl rfl rfl rfl rfl rfl rfl | exact z_alloc rfl rfl rfl | exact o_alloc zero_Opn rfl rfl | exact o_alloc zero_Cal rfl rfl | exact o_alloc zero_state rfl rfl | exact o_alloc zero_b14 rfl rfl | exact o_cpents rfl rfl rfl rfl rfl rfl (by omega) | exact o_alloc zero_Ans rfl rfl | exact o_bsll zero_Ans rfl rfl rfl rfl rfl rfl rfl rfl | exact o_bsll zero_Opn rfl rfl rfl rfl rfl rfl rfl rfl)); (focus (first | exact want_n | exact want_g rfl (by with_reducible rfl)))) | (apply Ws; (focus (first | exact o_stin rfl (by simp) rfl rfl (by first | omega | (simp; omega)) rfl | exact o_stbar rfl (by simp) rfl rfl (by first | omega | (simp; omega)) rfl | exact ok_store tabT (d := none) rfl rfl rfl rfl rfl rfl rfl rfl rfl rfl)); (focus (first | exact want_n | exact want_g rfl (by with_reducible rfl)))) | (refine Wskip (by first | exact want_f rfl (by with_reducible exact b_nt) | exact want_f rfl (by with_reducible exact b_nf) | exact want_t rfl) rfl ?_) | refine Wgt rfl rfl (by first | assumption | omega | exact rfl) ?_ | refine Wgf rfl rfl (by first | assumption | omega | exact rfl) ?_ | (refine Wgb rfl rfl (by with_reducible assumption) ?_) | (refine cb_is _ (by assumption) ?_)))))
      exact fin ⟨res_of rfl rfl rfl, trivial⟩
    | some q =>
      have hq := found_len hf
      obtain ⟨h14, hp⟩ := findC_some hf
      have f4 := a_legal c (q.map fun k : Nat => (k : Int)) (by omega) (by rw [List.length_map]; omega)
      rw [legC_pth h14, hp, ← numsA_ints] at f4
      rw [hf] at f1 f2
      have f3 := a_lsame q q (by omega) (by omega)
      rw [decide_eq_true rfl] at f3
      have f1' : AFn Try.prog 13 [calsA c] (.tup [numsA q, boolA true]) := f1
      have f2' : AFn Try.prog 14 [calsA c] (.tup [numsA q, boolA true]) := f2
      clear f1 f2
      have g2 : true = true := rfl
      refine AFn_intro Try.func8 rfl Try.ntmps8 rfl (by simp) [_] rfl fun E hE => ?_
      have hnt : (!true) = false := rfl
      have hnf : (!false) = true := rfl
      have d1 := acall Try.func17 (cp) (by decide +kernel) (by decide +kernel)
      have d2 := acall Try.func23 (co) (by decide +kernel) (by decide +kernel)
      have d3 := acall Try.func25 (ct') (by decide +kernel) (by decide +kernel)
      have d4 := acall Try.func24 (cc) (by decide +kernel) (by decide +kernel)
      have d5 := acall Try.func13 (f1') (by decide +kernel) (by decide +kernel)
      have d6 := acall Try.func14 (f2') (by decide +kernel) (by decide +kernel)
      have d7 := acall Try.func16 (f3) (by decide +kernel) (by decide +kernel)
      have d9 := acall Try.func18 (f4) (by decide +kernel) (by decide +kernel)
      have d8 := acall Try.func12 (a_awake25) (by decide +kernel) (by decide +kernel)
      repeat (first | (apply Wv; (focus (exact o_cuth rfl rfl rfl rfl (by omega))); (focus (first | exact want_n | exact want_g rfl (by with_reducible rfl)))) | (first | (first | refine Wend _ ?_ | refine AW_seq ?_ | refine AW_reg ?_ | refine AW_drw mixed ?_ | refine AW_block ?_ | refine AW_scope ?_ | refine thenA_n ?_ | refine blockA_n ?_ | refine blockA_h ?_ | refine scopeA_n ?_ | refine thenA_r ?_ | refine blockA_r ?_ | refine scopeA_r ?_ | refine thenA_e ?_ | refine scopeA_e ?_ | refine blockA_e rfl ?_ | refine AW_exit ?_ | refine AW_ret ?_ | refine AW_skip ?_ | refine AW_c rfl ?_ | with_reducible refine cb_t ?_ | with_reducible refine cb_f ?_ | with_reducible refine cb_yes (by first | assumption | omega) ?_ | with_reducible refine cb_no (by first | assumption | omega) ?_ | refine And.intro (by decide +kernel) ?_) | (first | (apply Wb; (focus (first | exact on_make rfl rfl rfl rfl rfl rfl rfl rfl (by omega) (by omega))); (focus (first | exact want_n | exact want_g rfl (by with_reducible rfl)))) | (apply Wv; (focus (first | exact on_idx rfl rfl rfl rfl rfl rfl (by first | rfl | assumption | omega | (simp; done) | (simp; omega)) (by first | rfl | assumption | omega | (simp; done) | (simp; omega)) | exact on_ld rfl rfl rfl (by first | rfl | assumption | omega | (simp; done) | (simp; omega)) (by first | rfl | assumption | omega | (simp; done) | (simp; omega)) rfl)); (focus (first | exact want_n | exact want_g rfl (by with_reducible rfl)))) | (apply Ws; (focus (exact on_st rfl rfl rfl (by first | rfl | assumption | omega | (simp; done) | (simp; omega)) (by first | rfl | assumption | omega | (simp; done) | (simp; omega)) rfl)); (focus (first | exact want_n | exact want_g rfl (by with_reducible rfl)))) | (first | (apply Wv; (focus (first | exact step_ok rfl rfl | exact o_idx rfl rfl rfl rfl (by first | assumption | omega | decide) | exact o_idx3 rfl rfl rfl rfl (by first | assumption | omega | decide) | exact o_idx2 rfl rfl rfl rfl rfl (by first | assumption | omega | decide) | exact o_idxr rfl rfl rfl rfl rfl rfl | exact o_lenm rfl rfl rfl | exact o_len rfl rfl rfl | exact o_len0 rfl rfl rfl | exact o_lens rfl rfl rfl | exact o_lent rfl rfl | exact o_add1 rfl rfl rfl (by omega) | exact o_addn rfl rfl rfl (by omega) | exact o_add rfl rfl rfl (by omega) | exact o_sub1 rfl rfl rfl (by omega) | exact o_sub rfl rfl rfl (by omega) | exact o_mul rfl rfl rfl (by omega) | exact o_rem rfl rfl rfl (by omega) | exact ok_rem rfl rfl rfl (by decide) rfl | exact o_eqKey rfl rfl rfl | exact o_neKey rfl rfl rfl | exact o_eqVl rfl rfl rfl | exact o_neVl rfl rfl rfl | exact o_eqEnt rfl rfl rfl | exact o_neEnt rfl rfl rfl | exact o_eqMsg rfl rfl rfl | exact o_neMsg rfl rfl rfl | exact o_acall rfl rfl rfl rfl (by assumption) | exact o_minn rfl rfl rfl | exact o_cutl rfl rfl rfl rfl (by omega) | exact o_cuth rfl rfl rfl rfl (by omega) | exact o_cutl3 rfl rfl rfl rfl (by omega) | exact o_cuth3 rfl rfl rfl rfl (by omega) | exact o_cutl2 rfl rfl rfl rfl rfl (by omega) | exact o_cuth2 rfl rfl rfl rfl rfl (by omega) | exact o_cutlh2 rfl rfl rfl rfl rfl rfl rfl (by omega) (by omega) | exact o_bld zero_Opn rfl rfl rfl rfl rfl rfl rfl | exact o_bld zero_Cal rfl rfl rfl rfl rfl rfl rfl | exact o_bld zero_state rfl rfl rfl rfl rfl rfl rfl | exact o_bld zero_search rfl rfl rfl rfl rfl rfl rfl | exact o_nilcr rfl rfl | exact o_nilcp rfl rfl | exact o_eqbar rfl rfl rfl (by simp) (by simp) | exact o_ldbar rfl rfl (by simp) rfl (by first | omega | (simp; omega)) rfl | exact o_idxpn rfl rfl rfl rfl (by omega) | exact o_idxvn rfl rfl rfl rfl (by omega) (by assumption) rfl | exact o_idxrn rfl rfl rfl rfl (by omega) (by assumption) | exact o_cutarr rfl rfl rfl rfl | exact o_mkfn rfl rfl rfl | exact o_callv rfl rfl rfl rfl rfl rfl (by assumption) | exact o_bld zero_Ans rfl rfl rfl rfl rfl rfl rfl | exact o_eqAns rfl rfl rfl | exact o_neAns rfl rfl rfl | exact e_bld rfl rfl rfl | exact e_bldk rfl rfl | exact z_bld0 rfl rfl rfl rfl rfl | exact z_bld rfl rfl rfl rfl rfl rfl rfl | exact o_addu rfl rfl rfl | exact z_blda rfl rfl rfl rfl rfl rfl rfl rfl rfl | exact o_idxa rfl rfl rfl rfl rfl rfl | exact o_idxra rfl rfl rfl rfl rfl rfl rfl | exact o_quo2 rfl rfl rfl (by omega) | exact o_quo rfl rfl rfl (by omega))); (focus (first | exact want_n | exact want_g rfl (by with_reducible rfl)))) | (apply Wb; (focus (first | exact o_box rfl rfl rfl rfl | exact o_app rfl rfl rfl rfl rfl (by first | exact o_many rfl | exact o_one _ _ rfl) (by first | omega | (simp; omega) | simp) (by first | omega | (simp; omega) | simp) | exact o_appn rfl rfl rfl rfl rfl (by first | exact o_many rfl | exact o_one _ _ rfl) (by first | omega | (simp; omega) | simp) (by first | omega | (simp; omega) | simp) | exact o_app1 rfl rfl rfl rfl rfl (by first | exact o_many rfl | exact o_one _ _ rfl) (by exact rfl) (by first | omega | (simp; omega) | simp) (by first | omega | (simp; omega) | simp) | exact o_app0 rfl rfl rfl rfl rfl (by first | exact o_many rfl | exact o_one _ _ rfl) (by first | omega | (simp; omega) | simp) (by first | omega | (simp; omega) | simp) | exact o_bsl0 rfl rfl rfl | exact z_bsll rfl rfl rfl rfl rfl rfl rfl rfl rfl | exact z_alloc rfl rfl rfl | exact o_alloc zero_Opn rfl rfl | exact o_alloc zero_Cal rfl rfl | exact o_alloc zero_state rfl rfl | exact o_alloc zero_b14 rfl rfl | exact o_cpents rfl rfl rfl rfl rfl rfl (by omega) | exact o_alloc zero_Ans rfl rfl | exact o_bsll zero_Ans rfl rfl rfl rfl rfl rfl rfl rfl | exact o_bsll zero_Opn rfl rfl rfl rfl rfl rfl rfl rfl)); (focus (first | exact want_n | exact want_g rfl (by with_reducible rfl)))) | (apply Ws; (focus (first | exact o_stin rfl (by simp) rfl rfl (by first | omega | (simp; omega)) rfl | exact o_stbar rfl (by simp) rfl rfl (by first | omega | (simp; omega)) rfl | exact ok_store tabT (d := none) rfl rfl rfl rfl rfl rfl rfl rfl rfl rfl)); (focus (first | exact want_n | exact want_g rfl (by with_reducible rfl)))) | (refine Wskip (by first | exact want_f rfl (by with_reducible exact b_nt) | exact want_f rfl (by with_reducible exact b_nf) | exact want_t rfl) rfl ?_) | refine Wgt rfl rfl (by first | assumption | omega | exact rfl) ?_ | refine Wgf rfl rfl (by first | assumption | omega | exact rfl) ?_ | (refine Wgb rfl rfl (by with_reducible assumption) ?_) | (refine cb_is _ (by assumption) ?_)))))
      exact fin ⟨res_of rfl rfl rfl, trivial⟩
  have cp := a_lplace n 3 (by omega) (by omega) hn
  have h3 : n % 3 = 0 ∨ n % 3 = 1 ∨ n % 3 = 2 := by omega
  rcases h3 with h | h | h
  · rw [h] at cp
    exact key 1 (by omega) (by omega) (a_lops1 ops ho (by omega)) cp
  · rw [h] at cp
    exact key 2 (by omega) (by omega) (a_lops2 ops ho (by omega)) cp
  · rw [h] at cp
    exact key 3 (by omega) (by omega) (a_lops3 ops ho (by omega)) cp
theorem lineHists_walk (n0 : Int) (v1 : Value) (l1 : List (Int)) (v2 : Value) (l2 : List (Int)) (w : World) (b0 : -9223372036854775808 ≤ n0 ∧ n0 ≤ 9223372036854775807) (s1 : Sl ie 1 w v1 l1) (g1 : ∀ n ∈ l1, -9223372036854775808 ≤ n ∧ n ≤ 9223372036854775807) (z1 : l1.length ≤ 17592186043904) (s2 : Sl ie 1 w v2 l2) (g2 : ∀ n ∈ l2, -9223372036854775808 ≤ n ∧ n ≤ 9223372036854775807) (z2 : l2.length ≤ 17592186043904) :
    Calls Try.prog 8 #[.int .i64 n0, v1, v2] w (Is w (.bool true)) :=
  law_of (a_lhists n0 b0 l1 l2 g1 z1 g2) (rdp_cons rfl int_in (rdp_cons rfl (ints_in s1) (rdp_cons rfl (ints_in s2) rdp_nil')))
end Go.Proofs.Ytphojngdgmnpaaa
