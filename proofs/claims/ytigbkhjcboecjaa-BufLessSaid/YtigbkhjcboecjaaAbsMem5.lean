/-
  AbsMem5: composites of slices, makes, copies, what stays, over plain readings. Of no one program.
-/
import Derived.Test.YtigbkhjcboecjaaAbsMem4
import Derived.Test.YtigbkhjcboecjaaAbsW
import Derived.Laws.MakeOwn
namespace Go.Proofs.Ytigbkhjcboecjaa
open Go Go.RowKit
set_option linter.unusedVariables false
set_option linter.unusedSimpArgs false

theorem Rds_rdu {U : Uns} {w : World} {n : Nat} {B : Blk} {H : Hp} : ∀ {xs : List AV} {c : List Value}, Rds U w xs B H c → (∀ x ∈ xs, sizeA x = n) → Rdu U w n xs B H c
  | [], c, h, _ => by simpa [Rds, Rdu] using h
  | x :: xs, c, h, hn => by
    simp only [Rds] at h
    obtain ⟨c1, c2, rfl, h1, h2⟩ := h
    simp only [Rdu]
    exact ⟨c1, c2, rfl, by rw [Rd_len h1]; exact hn x List.mem_cons_self, h1, Rds_rdu h2 fun y hy => hn y (List.mem_cons_of_mem _ hy)⟩
theorem Rdu_rds {U : Uns} {w : World} {n : Nat} {B : Blk} {H : Hp} : ∀ {xs : List AV} {c : List Value}, Rdu U w n xs B H c → Rds U w xs B H c
  | [], c, h => by simpa [Rds, Rdu] using h
  | x :: xs, c, h => by
    simp only [Rdu] at h
    obtain ⟨c1, c2, rfl, _, h1, h2⟩ := h
    simp only [Rds]
    exact ⟨c1, c2, rfl, h1, Rdu_rds h2⟩
theorem WkL.rdu {H : Hp} {U : Uns} {w : World} {B : Blk} {n : Nat} {xs ys : List AV} (h : WkL H xs ys) {c : List Value} (hr : Rdu U w n xs B H c) : Rdu U w n ys B0 H0 c := by
  induction h generalizing c with
  | nil => simpa [Rdu] using hr
  | cons hx _ ih =>
    simp only [Rdu] at hr ⊢
    obtain ⟨c1, c2, e, k0, k1, k2⟩ := hr
    exact ⟨c1, c2, e, k0, (hx _ _ _ _ k1).1, ih k2⟩
theorem made_rdu {U : Uns} {w : World} {z : AV} {cs : Array Value} (h : Rd U w z B0 H0 cs.toList) (h0 : 0 < cs.size) : ∀ k, Rdu U w cs.size (List.replicate k z) B0 H0 (madeCells cs (k * cs.size)).toList := by
  have e : ∀ k, (madeCells cs (k * cs.size)).toList = (List.replicate k cs.toList).flatten := by
    intro k
    have hk : EncOk (fun _ : Unit => cs) cs.size := ⟨fun _ => rfl, fun _ => by
      unfold oneCells; rw [← Array.all_toList, List.all_eq_true]; exact Rd_one z h, h0⟩
    have hz := zeroCells_flat (enc := fun _ : Unit => cs) (x0 := ()) (z := .agg cs) hk rfl k
    have e1 : (madeCells cs (k * cs.size)) = Builtin.zeroCells cs k := rfl
    rw [e1]
    have e2 : (Value.agg cs).cells = cs := rfl
    rw [e2] at hz
    rw [hz]
    unfold flat
    clear hz e1 e2
    induction k with
    | zero => rfl
    | succ k ih => simp [List.replicate_succ, ih]
  intro k
  rw [e]
  induction k with
  | zero => simp [Rdu]
  | succ k ih =>
    simp only [List.replicate_succ, List.flatten_cons, Rdu]
    exact ⟨cs.toList, _, rfl, by simp, h, ih⟩
theorem imul_le (a b : Nat) (h : a * b ≤ 140737488355328) : (a : Int) * (b : Int) ≤ 281474976710656 := by
  have : (a : Int) * (b : Int) = ((a * b : Nat) : Int) := by simp
  omega
section
variable {P : Program} {E : Env} {nt : Nat} {ops : Array Oper} {T : Nat → Option AV} {H : Hp} {d : Option Nat} {ty : TypeId} {pos : String} {af : Array Edge} {gd : Option (Nat × Bool)} (tb : Tab P)
/-- what a new row of so many elements reads as -/
theorem Rel.newRow {B : Blk} {a : Act} {w : World} (r : Rel E nt B T H a w) {g es k : Nat} {e : TypeId} {ys : List AV} {cs : List Value} {cap : Nat} (hg : H g = none) (hn : 0 < es) (hy : Rdu (unst E B H) w es ys B0 H0 (cs.take (ys.length * es))) (hk : ys.length = k) (hc : cs.length = cap * es) (hkc : k ≤ cap) (hm : cap ≤ maxLen) :
    Rel E nt (upd B g w.heap.size) T (upd H g (.tail e es k)) a (w.alloc (.cells cs.toArray e)) ∧ Rd (unst E (upd B g w.heap.size) (upd H g (.tail e es k))) (w.alloc (.cells cs.toArray e)) (.sl (some g) es ys) (upd B g w.heap.size) (upd H g (.tail e es k)) [.slice (some ⟨w.heap.size, 0, none⟩) k cap] := by
  subst hk
  have hlt : ∀ j bj b, H j = some bj → B j = some b → b < w.heap.size := fun j bj b h1 h2 => r.blk_lt h1 h2
  refine ⟨r.new hg ⟨hn, .inr ⟨w.heap.size, cs.toArray, cap, upd_same _ _ _, heap_alloc_new w _, by simpa using hc, hkc, hm, r.left.size⟩⟩, ?_⟩
  simp only [Rd]
  have hle : ys.length * es ≤ cs.length := by rw [hc]; exact Nat.mul_le_mul_right _ hkc
  refine ⟨_, cap, rfl, hkc, hm, fun _ => ⟨w.heap.size, 0, cs.take (ys.length * es), rfl, ?_, fun o _ ho hun => ?_, Rdu_go (Evo.ofExt ((Ext.refl w).alloc _)) (unst_new hlt) _ ys (Pic.refl0 _ _) hy⟩, fun t ht => ?_⟩
  · rw [row_block (heap_alloc_new w _)]
    unfold rowOf
    rw [if_pos (by simpa using hle)]
    congr 1
    apply Array.ext'
    simp
  · rcases hun with ⟨h, _⟩ | ⟨j, h1, h2⟩
    · have := r.left.size; omega
    · by_cases hj : j = g
      · subst hj; rw [upd_same] at h2
        have h3 : ys.length * es ≤ o := h2
        omega
      · rw [upd_ne _ _ hj] at h1 h2
        cases hh : H j with
        | none => rw [hh] at h2; exact h2
        | some bj => have := hlt j bj _ hh h1; omega
  · injection ht with ht
    subst ht
    refine ⟨e, ys.length, upd_same _ _ _, Nat.le_refl _, fun _ => ⟨(fun h => by rw [upd_same] at h; cases h), fun b hb => ?_⟩⟩
    rw [upd_same] at hb
    injection hb with hb
    subst hb
    exact ⟨rfl, cs.toArray, heap_alloc_new w _, by simpa using hc⟩
theorem ok_bslice {t e : TypeId} {es bytes len : Nat} {ea : Bool} {l : List (Nat × Operand)} {vs : List (Nat × AV)} {z : AV} {out ys : List AV} {g : Nat} (hd : dOk nt d = true) (hs : tb.ti t = some (.sl e (es + 1) bytes ea)) (hz : ZeroOk P e z) (hv : partsA T l = some vs) (ho : fillA vs (List.replicate (len + 1) z) = some out) (hg : H g = none)
    (hw : ∀ H', WkL H' out ys) (hsz : out.all (fun x => Nat.beq (sizeA x) (es + 1)) = true) (hlen : out.length = len + 1) (hsmall : Nat.ble ((len + 1) * (es + 1)) 16777216 = true) :
    OpOK P E nt ops ⟨d, .buildSlice t (len + 1) l.toArray, ty, pos, af, gd⟩ T H [] ⟨.sl (some g) (es + 1) ys, [(g, .tail e (es + 1) (len + 1))]⟩ :=
  ok_eff hd fun B T' H' a w r ht hh hw' => by
    have hg' : H' g = none := (hw' (g, .tail e (es + 1) (len + 1)) (by simp)).trans hg
    obtain ⟨_, hu, hte, i, zv, z1, z2, z3, z4, z5⟩ := tb.ok t _ hs
    obtain ⟨i', zv', y1, y2, y3⟩ := hz
    rw [z1] at y1; injection y1 with y1; subst y1
    rw [z2] at y2; injection y2 with y2; subst y2
    have hzr := y3 (unst E B H') w
    have hzl : sizeA z = es + 1 := by rw [← Rd_len hzr]; simpa using z5
    have hm := Rdu_rds (Rdu_go (Evo.refl _ w) (fun _ _ _ h => h) _ _ ⟨fun g b h _ => by simp [H0, isVar] at h, fun g h => by simp [H0, isVar] at h, fun t n len A cap h => by obtain ⟨e, k, h, _⟩ := h; simp [H0] at h⟩ (made_rdu (U := unst E B H') (w := w) hzr (by rw [z5]; omega) (len + 1)) : Rdu (unst E B H') w zv.cells.size (List.replicate (len + 1) z) B H' _)
    have hv' := parts_agree hv (T' := T') (fun p hp => ht p.2 (by simp [Op.operands]; exact ⟨p.1, hp⟩))
    have hsum : ∀ k i, sumS ((List.replicate k z).take i) = min i k * (es + 1) := by
      intro k
      induction k with
      | zero => intro i; simp [sumS]
      | succ k ih =>
        intro i
        cases i with
        | zero => simp [sumS]
        | succ i => simp only [List.replicate_succ, List.take_succ_cons, sumS, ih, hzl]; rw [Nat.succ_min_succ, Nat.succ_mul]; omega
    obtain ⟨cells', q1, q2⟩ := fill_rds r l vs _ out _ hv' ho (place := fun i => some (i * (es + 1), es + 1)) (fun i y h => by
      have hlt := (List.getElem?_eq_some_iff.1 h).1
      simp at hlt
      rw [List.getElem?_replicate, if_pos hlt] at h
      injection h with h
      subst h
      rw [hsum, hzl]
      have : min i (len + 1) = i := by omega
      rw [this]) hm
    have hszl : ∀ x ∈ out, sizeA x = es + 1 := fun x hx => Nat.eq_of_beq_eq_true (List.all_eq_true.1 hsz x hx)
    have hrdu := (hw H').rdu (Rds_rdu q2 hszl)
    have hyl : ys.length = len + 1 := by
      have := Rdu_len hrdu
      have h2 := Rdu_len (Rds_rdu q2 hszl)
      rw [this, hlen] at h2
      exact Nat.eq_of_mul_eq_mul_right (Nat.succ_pos es) h2
    have hcl := Rdu_len hrdu
    have hsm : (len + 1) * (es + 1) ≤ 16777216 := Nat.le_of_ble_eq_true hsmall
    have hlm : len + 1 ≤ (len + 1) * (es + 1) := Nat.le_mul_of_pos_right _ (Nat.succ_pos es)
    obtain ⟨k1, k2⟩ := r.newRow (e := e) (k := len + 1) (cap := len + 1) (cs := cells') hg' (Nat.succ_pos es) (by rw [← hcl, List.take_length]; exact hrdu) hyl (by rw [hcl, hyl]) (Nat.le_refl _) (by unfold maxLen; omega)
    have hbs := run_buildSlice (P := P) w t e (len + 1) (l.map fun p => (p.1, a.eval p.2)).toArray cells'.toArray i zv hu z1 z2 (by rw [z3]; omega) (by rw [z3]; have := Nat.mul_pos (Nat.succ_pos len) (Nat.succ_pos es); omega) (by
      rw [z3]
      have := fill_of_fillS _ _ _ q1
      rw [Array.toArray_toList] at this
      have e1 : madeCells zv.cells ((len + 1) * zv.cells.size) = (Array.range ((len + 1) * (es + 1))).map (zv.cells[· % zv.cells.size]!) := by rw [← z5]; rfl
      rw [e1] at this
      simpa using this)
    refine ⟨_, _, _, ?_, k1, by rw [Rdv_not (by simp)]; exact ⟨_, k2, rfl⟩⟩
    have hmm : (Array.map (fun x => (x.1, a.eval x.2)) l.toArray) = (l.map fun p => (p.1, a.eval p.2)).toArray := by simp
    simp only [execOp, hmm, Sem.run_bind, hbs]
    rfl
/-- make: so many zero elements, a variable of the function's own -/
theorem ok_make {t e : TypeId} {es bytes : Nat} {ea : Bool} {x y : Operand} {k k' : IntKind} {n : Nat} {z : AV} {g : Nat} (hd : dOk nt d = true) (hs : tb.ti t = some (.sl e (es + 1) bytes ea)) (hz : ZeroOk P e z) (hx : evalO T x = some (.v (.int k (n : Nat)))) (hy : evalO T y = some (.v (.int k' (n : Nat)))) (hg : H g = none) (hb : bytes * n ≤ 140737488355328) (hn : n ≤ 9223372036854775807) :
    OpOK P E nt ops ⟨d, .makeSlice t x y, ty, pos, af, gd⟩ T H [] ⟨.seg g 0 (es + 1) [] n n, [(g, .var (.arr (n * (es + 1)) (es + 1) (List.replicate n z)))]⟩ :=
  ok_eff hd fun B T' H' a w r ht hh hw' => by
    have hg' : H' g = none := (hw' (g, .var (.arr (n * (es + 1)) (es + 1) (List.replicate n z))) (by simp)).trans hg
    have e1 := r.evalv ((ht x (by simp [Op.operands])).trans hx)
    have e2 := r.evalv ((ht y (by simp [Op.operands])).trans hy)
    obtain ⟨_, hu, hte, i, zv, z1, z2, z3, z4, z5⟩ := tb.ok t _ hs
    obtain ⟨i', zv', y1, y2, y3⟩ := hz
    rw [z1] at y1; injection y1 with y1; subst y1
    rw [z2] at y2; injection y2 with y2; subst y2
    have hrun := run_make (P := P) w t e i zv hu z1 z2 k k' n n (by omega) (Int.le_refl _) (by rw [z4]; exact imul_le _ _ hb) (by omega)
    simp only [Int.toNat_natCast, z3] at hrun
    have hm := made_rdu (U := unst E (upd B g w.heap.size) (upd H' g (.var (.arr (n * (es + 1)) (es + 1) (List.replicate n z))))) (w := w.alloc (.cells (madeCells zv.cells (n * (es + 1))) e)) (y3 _ _) (by rw [z5]; omega) n
    rw [z5] at hm
    refine ⟨.slice (some ⟨w.heap.size, 0, none⟩) n n, w.alloc (.cells (madeCells zv.cells (n * (es + 1))) e), upd B g w.heap.size, ?_, r.new hg' ⟨w.heap.size, (madeCells zv.cells (n * (es + 1))).toList, e, upd_same _ _ _, by rw [Array.toArray_toList, heap_alloc_new], ?_, .inl r.left.size⟩, ?_⟩
    · simp [execOp, e1, e2, hrun]
    · simp only [Rd]
      exact ⟨by have := Rdu_len hm; simpa using this, hm⟩
    · rw [Rdv_not (by simp)]
      exact ⟨[_], by simp only [Rd]; exact ⟨by simp [updH, upd_same, isVar], w.heap.size, upd_same _ _ _, by unfold maxLen; omega, Nat.le_refl _, rfl⟩, rfl⟩
/-- make of none, with room -/
theorem ok_make0 {t e : TypeId} {es bytes : Nat} {ea : Bool} {x y : Operand} {k k' : IntKind} {n : Nat} {g : Nat} (hd : dOk nt d = true) (hs : tb.ti t = some (.sl e (es + 1) bytes ea)) (hx : evalO T x = some (.v (.int k 0))) (hy : evalO T y = some (.v (.int k' n))) (hg : H g = none) (hb : bytes * n ≤ 140737488355328) (hn : n ≤ 9223372036854775807) :
    OpOK P E nt ops ⟨d, .makeSlice t x y, ty, pos, af, gd⟩ T H [] ⟨.sl (some g) (es + 1) [], [(g, .tail e (es + 1) 0)]⟩ :=
  ok_eff hd fun B T' H' a w r ht hh hw' => by
    have hg' : H' g = none := (hw' (g, .tail e (es + 1) 0) (by simp)).trans hg
    have e1 := r.evalv ((ht x (by simp [Op.operands])).trans hx)
    have e2 := r.evalv ((ht y (by simp [Op.operands])).trans hy)
    obtain ⟨_, hu, hte, i, zv, z1, z2, z3, z4, z5⟩ := tb.ok t _ hs
    have hrun := run_make (P := P) w t e i zv hu z1 z2 k k' 0 n (by omega) (by omega) (by rw [z4]; exact imul_le _ _ hb) (by omega)
    simp only [Int.toNat_natCast, z3] at hrun
    obtain ⟨k1, k2⟩ := r.newRow (e := e) (k := 0) (cap := n) (ys := []) (cs := (madeCells zv.cells (n * (es + 1))).toList) hg' (Nat.succ_pos es) (by simp [Rdu]) rfl (by simp [size_madeCells]) (Nat.zero_le _) (by unfold maxLen; omega)
    rw [Array.toArray_toList] at k1 k2
    have hfin : (execOp a.eval ⟨d, .makeSlice t x y, ty, pos, af, gd⟩).run P w = .ok (.value (.slice (some ⟨w.heap.size, 0, none⟩) 0 n)) (w.alloc (.cells (madeCells zv.cells (n * (es + 1))) e)) := by
      simp [execOp, e1, e2, hrun]
    exact ⟨_, _, _, hfin, k1, by rw [Rdv_not (by simp)]; exact ⟨_, k2, rfl⟩⟩
/-! ### copies -/
/-- the first m elements of a copy's source -/
def SrcN (P : Program) (E : Env) (B : Blk) (H : Hp) (w : World) (n : Nat) (v : Value) (ys : List AV) (m : Nat) : Prop :=
  (Builtin.lenOf v).run P w = .ok ys.length w ∧ ∃ news, (Builtin.firstCells n m v).run P w = .ok news.toArray w ∧ Rdu (unst E B H) w n (ys.take m) B0 H0 news
def SrcNOf (P : Program) (n : Nat) (src : AV) (ys : List AV) : Prop := ∀ E B H w v m, m ≤ ys.length → Rdv (unst E B H) w B H src v → SrcN P E B H w n v ys m
theorem srcn_sl {n : Nat} {tok : Option Nat} {ys : List AV} : SrcNOf P n (.sl tok n ys) ys := fun E B H w v m hm h => by
  have h := Rdv_one (by simp) h rfl
  simp only [Rd] at h
  obtain ⟨A, cap, h1, h2, h3, h4, _⟩ := h
  injection h1 with h1
  subst h1
  refine ⟨by simp [Builtin.lenOf], ?_⟩
  by_cases h0 : m = 0
  · subst h0
    refine ⟨[], ?_, by simp [Rdu]⟩
    cases A <;> simp [Builtin.firstCells, loadCells, loadCellsFrom]
  · obtain ⟨b, off, c, rfl, k1, k2, k3⟩ := h4 (by omega)
    have hcl := Rdu_len k3
    have hle : m * n ≤ ys.length * n := Nat.mul_le_mul_right _ hm
    refine ⟨c.take (m * n), ?_, Rdu_take m k3⟩
    refine run_firstCells_some (P := P) w n m ⟨b, off, none⟩ ys.length cap (c.take (m * n)) (by rw [List.length_take]; omega) ?_
    refine cells_of_row (n := m * n) ?_
    have := row_sub k1 0 (m * n) (by omega)
    rw [Nat.add_zero] at this
    rw [this]
    unfold rowOf
    rw [if_pos (by simp; omega)]
    congr 1
    apply Array.ext'
    simp
theorem srcn_str {s : ByteArray} : SrcNOf P 1 (.v (.string s)) (bytesAV s) := fun E B H w v m hm h => by
  rw [Rdv_v] at h
  obtain ⟨_, rfl⟩ := h
  have hl : (bytesAV s).length = s.size := by unfold bytesAV; rw [List.length_map, Array.length_toList]; rfl
  refine ⟨by simp [Builtin.lenOf, hl], ((s.extract 0 m).data.map fun b => Value.int .u8 b.toNat).toList, by simp only [Builtin.firstCells, Sem.run_pure], ?_⟩
  have e1 : (bytesAV s).take m = (s.data.toList.take m).map fun b => AV.v (.int .u8 b.toNat) := by unfold bytesAV; rw [List.map_take]
  have e2 : (s.extract 0 m).data.toList = s.data.toList.take m := by simp
  rw [e1, Array.toList_map, e2]
  induction s.data.toList.take m with
  | nil => simp [Rdu]
  | cons b l ih =>
    simp only [List.map_cons, Rdu]
    exact ⟨[.int .u8 b.toNat], _, rfl, rfl, by simp [Rd, plain], ih⟩
theorem ok_copy {x y : Operand} {t tx e : TypeId} {es bytes : Nat} {ea : Bool} {g off len cap m : Nat} {p : List Nat} {z z' src : AV} {xs ys : List AV} (hd : dOk nt d = true) (hs : tb.ti t = some (.sl e es bytes ea)) (hx : evalO T x = some (.seg g off es p len cap)) (hy : evalO T y = some src) (hsrc : SrcNOf P es src ys)
    (hg : H g = some (.var z)) (hp : subA p z = some (.arr m es xs)) (ho : offA p z = off) (hl : len ≤ xs.length) (hz : setA (.arr m es (ys.take (min ys.length len) ++ xs.drop (min ys.length len))) p z = some z') :
    OpOK P E nt ops ⟨d, .call { callee := .builtin .copy, args := #[x, y], argTypes := #[t, tx] }, ty, pos, af, gd⟩ T H [g] ⟨.v (.int .i64 (min ys.length len : Nat)), [(g, .var z')]⟩ :=
  ok_eff hd fun B T' H' a w r ht hh hw => by
    have hg' : H' g = some (.var z) := (hh g (by simp)).trans hg
    have h := Rdv_one (by simp) (r.eval ((ht x (by simp [Op.operands, Call.operands])).trans hx)) rfl
    obtain ⟨s1, news, s2, s3⟩ := hsrc E B H' w _ (min ys.length len) (Nat.min_le_left _ _) (r.eval ((ht y (by simp [Op.operands, Call.operands])).trans hy))
    simp only [Rd] at h
    obtain ⟨_, b, h1, _, _, h2⟩ := h
    injection h2 with h2
    obtain ⟨b', cs, tt, k1, k2, k3, _⟩ := r.box g _ hg'
    rw [h1] at k1; injection k1 with k1; subst k1
    obtain ⟨c1, c2, c3, rfl, m1, m2, m3⟩ := Rd_sub p k3 hp
    simp only [Rd] at m2
    have hnl := Rdu_len s3
    rw [List.length_take] at hnl
    have hmm : min (min ys.length len) ys.length = min ys.length len := by omega
    rw [hmm] at hnl
    have hcl := Rdu_len m2.2
    have hle : min ys.length len * es ≤ xs.length * es := Nat.mul_le_mul_right _ (by omega)
    obtain ⟨_, hu, he, _⟩ := tb.ok t _ hs
    have hzz := run_sizeOf_of he w
    have hst := setCells_turned (P := P) w b off news k2 (by rw [← ho, ← m1]; simp; omega) (Rdu_one es _ s3)
    have hd2 := Rdu_drop (min ys.length len) m2.2 (by omega)
    have hnew := Rdu_append s3 hd2
    have hsp : splice (c1 ++ c2 ++ c3).toArray off news.toArray = (c1 ++ (news ++ c2.drop (min ys.length len * es)) ++ c3).toArray := by
      rw [← ho, ← m1]
      unfold splice
      apply Array.ext'
      simp only [List.size_toArray, List.append_assoc]
      rw [List.take_append, List.drop_append]
      simp [hnl, List.drop_append, show min ys.length len * es - c2.length = 0 by omega]
    have hst2 := r.store (x' := z') (cs' := c1 ++ (news ++ c2.drop (min ys.length len * es)) ++ c3) hg' h1 k2 (turned_put (off := off) (cs := news.toArray)) (by rw [putRow_heap_same k2, hsp]) (by simp; omega)
      (m3 _ z' _ hz (by simp only [Rd]; exact ⟨by rw [← m2.1]; simp; omega, hnew⟩) (by simp; omega))
    refine ⟨.int .i64 (min ys.length len : Nat), putRow w b off news.toArray, B, ?_, hst2, by rw [Rdv_v]; exact ⟨rfl, rfl⟩⟩
    have hmin : Nat.min ys.length len = min ys.length len := rfl
    simp [execOp, resolve, invoke, builtin, Builtin.copy_, h2, run_underlying hu, s1, hmin, hzz, s2, hst, goInt]
/-- an element's address in a made slice -/
theorem ok_idx_seg {x ix : Operand} {t e : TypeId} {es bytes : Nat} {ea : Bool} {g off len cap : Nat} {p : List Nat} {k : IntKind} {i : Nat} (hd : dOk nt d = true) (hs : tb.ti t = some (.sl e es bytes ea)) (hx : evalO T x = some (.seg g off es p len cap)) (hi : evalO T ix = some (.v (.int k (i : Nat)))) (hl : i < len) :
    OpOK P E nt ops ⟨d, .indexAddr t x ix, ty, pos, af, gd⟩ T H [] ⟨.ptr g (off + i * es) (p ++ [i]), []⟩ :=
  ok_val hd fun B T' H' a w r ht hh => by
    have h := Rdv_one (by simp) (r.eval ((ht x (by simp [Op.operands])).trans hx)) rfl
    have hj := r.evalv ((ht ix (by simp [Op.operands])).trans hi)
    simp only [Rd] at h
    obtain ⟨hv, b, h1, _, _, h2⟩ := h
    injection h2 with h2
    obtain ⟨_, hu, he, _⟩ := tb.ok t _ hs
    have hz := run_sizeOf_of he w
    have hl' : (i : Int) < (len : Int) := by omega
    refine ⟨.pointer (some ⟨b, off + i * es, none⟩), ?_, ?_⟩
    · simp [execOp, h2, hj, Instr.indexAt, run_underlying hu, asIntOf, hz, hl, add_lit]
    · rw [Rdv_not (by simp)]
      exact ⟨_, by simp only [Rd]; exact ⟨hv, b, h1, rfl⟩, rfl⟩
end

/-! ### a variable that stays as it is -/
theorem Rel.froz {E : Env} {nt : Nat} {B : Blk} {T : Nat → Option AV} {H : Hp} {a : Act} {w : World} (he : ∀ b, ¬ E.ent b) (r : Rel E nt B T H a w) {g : Nat} {x : AV} (hg : H g = some (.var x)) : Rel E nt B T (upd H g (.froz x)) a w := by
  have hlive : live (H g) = true := by rw [hg]; rfl
  have hsub : ∀ b o, unst E B (upd H g (.froz x)) b o → unst E B H b o := by
    rintro b o (h | ⟨j, h1, h2⟩)
    · exact .inl h
    · by_cases hj : j = g
      · subst hj; rw [upd_same] at h2; exact h2.elim
      · rw [upd_ne _ _ hj] at h2; exact .inr ⟨j, h1, h2⟩
  have pic : Pic w w B B H (upd H g (.froz x)) := by
    refine ⟨fun _ _ _ h => h, fun j h => ?_, fun t n len A cap h => ?_⟩
    · unfold upd; split
      · rfl
      · exact h
    · obtain ⟨e', k, h1, h2⟩ := h
      have hj : t ≠ g := fun e => by rw [e, hg] at h1; cases h1
      exact ⟨e', k, by rw [upd_ne _ _ hj]; exact h1, h2⟩
  obtain ⟨b, cs, ty, k1, k2, k3, k4⟩ := r.box g _ hg
  refine r.move (Evo.refl _ w) (fun b o _ h => hsub b o h) pic r.left (fun j bj h => ?_) (fun j h => ?_) (fun j j' b' h1 h2 h3 h4 => ?_)
  · by_cases hj : j = g
    · subst hj
      rw [upd_same] at h; injection h with h; subst h
      refine .inl ⟨b, cs, k1, ?_, fun o _ ho hun => ?_, Rd_go (Evo.refl _ w) (fun b o _ h => hsub b o h) x pic k3⟩
      · rw [row_block k2]; exact rowOf_full _ _ (by simp)
      · rcases hun with ⟨h, _⟩ | ⟨i, h1, h2⟩
        · rcases k4 with k4 | k4
          · omega
          · exact he _ k4
        · by_cases hi : i = j
          · subst hi; rw [upd_same] at h2; exact h2
          · rw [upd_ne _ _ hi] at h2
            cases hh : H i with
            | none => rw [hh] at h2; exact h2
            | some bi =>
              rw [hh] at h2
              refine hi (r.inj i j b ?_ hlive h1 k1)
              rw [hh]
              cases bi <;> first | rfl | exact h2.elim
    · rw [upd_ne _ _ hj] at h
      exact .inr ⟨h, rfl, fun _ _ _ => rfl⟩
  · refine r.non j ?_
    by_cases hj : j = g
    · subst hj; rw [upd_same] at h; cases h
    · rwa [upd_ne _ _ hj] at h
  · have up : ∀ j, live (upd H g (.froz x) j) = true → live (H j) = true := by
      intro j hj
      by_cases h : j = g
      · subst h; exact hlive
      · rwa [upd_ne _ _ h] at hj
    exact r.inj j j' b' (up j h1) (up j' h2) h3 h4
theorem Go2.froz {E : Env} {nt : Nat} {T : List (Nat × AV)} {H : List (Nat × Bx)} (he : ∀ b, ¬ E.ent b) (g : Nat) {x : AV} (hg : look g H = some (.var x)) : Go2 E nt ⟨T, H⟩ ⟨T, (g, .froz x) :: H⟩ := fun B a w r => by
  have e : St.h ⟨T, (g, .froz x) :: H⟩ = upd (St.h ⟨T, H⟩) g (.froz x) := look_cons _ _ _
  exact ⟨B, by rw [e]; exact r.froz he hg⟩
/-- a made slice that stays: a list -/
theorem Go2.seg {E : Env} {nt : Nat} {T : List (Nat × AV)} {H : List (Nat × Bx)} (s g : Nat) {off n m len cap : Nat} {p : List Nat} {y : AV} {xs : List AV} (hs : look s T = some (.seg g off n p len cap)) (hg : look g H = some (.froz y)) (hp : subA p y = some (.arr m n xs)) (ho : offA p y = off) (hl : len ≤ xs.length) :
    Go2 E nt ⟨T, H⟩ ⟨(s, .sl none n (xs.take len)) :: T, H⟩ := fun B a w r => by
  refine ⟨B, r.nt, r.df, fun s' x hx => ?_, r.box, r.non, r.inj, r.left⟩
  have eT : St.t ⟨(s, AV.sl none n (xs.take len)) :: T, H⟩ = upd (St.t ⟨T, H⟩) s (.sl none n (xs.take len)) := look_cons _ _ _
  rw [eT] at hx
  by_cases h : s' = s
  · subst h
    rw [upd_same] at hx
    injection hx with hx
    subst hx
    obtain ⟨v, h1, h2⟩ := r.tmp s' _ hs
    refine ⟨v, h1, ?_⟩
    have h3 := Rdv_one (by simp) h2 rfl
    simp only [Rd] at h3
    obtain ⟨_, b, k1, k2, k3, k4⟩ := h3
    injection k4 with k4
    subst k4
    obtain ⟨b', cs, q1, q2, q3, q4⟩ := r.box g _ hg
    rw [k1] at q1; injection q1 with q1; subst q1
    obtain ⟨c1, c2, c3, rfl, m1, m2, _⟩ := Rd_sub p q4 hp
    have hrow := row_mid q2
    rw [Nat.zero_add, m1, ho] at hrow
    simp only [Rd] at m2
    have hl2 := Rdu_len m2.2
    have hlen : (xs.take len).length = len := by rw [List.length_take]; omega
    have e2 : len * n ≤ xs.length * n := Nat.mul_le_mul_right _ hl
    rw [Rdv_not (by simp)]
    refine ⟨[_], ?_, rfl⟩
    simp only [Rd]
    refine ⟨_, cap, by rw [hlen], by rw [hlen]; exact k3, k2, fun _ => ⟨b, off, c2.take (len * n), rfl, ?_, fun o o1 o2 => ?_, Rdu_take len m2.2⟩, fun t ht => by cases ht⟩
    · rw [hlen]
      have := row_sub hrow 0 (len * n) (by omega)
      rw [Nat.add_zero] at this
      rw [this]
      unfold rowOf
      rw [if_pos (by simp; omega)]
      congr 1
      apply Array.ext'
      simp
    · rw [hlen] at o2
      exact q3 o (by omega) (by simp; omega)
  · rw [upd_ne _ _ h] at hx
    exact r.tmp s' x hx
end Go.Proofs.Ytigbkhjcboecjaa
