/-
  AbsMem3: stores, new variables, composites, appends, cuts, calls, over plain readings. Of no one program.
-/
import Derived.Test.YtigbkhjcboecjaaAbsMem2
namespace Go.Proofs.Ytigbkhjcboecjaa
open Go Go.RowKit
set_option linter.unusedVariables false
set_option linter.unusedSimpArgs false

section
variable {P : Program} {E : Env} {nt : Nat} {ops : Array Oper} {T : Nat → Option AV} {H : Hp} {d : Option Nat} {ty : TypeId} {pos : String} {af : Array Edge} {gd : Option (Nat × Bool)} (tb : Tab P)
def notTup : AV → Bool
  | .tup _ => false
  | _ => true
theorem notTup_ne {x : AV} (h : notTup x = true) : ∀ xs, x ≠ .tup xs := by rintro xs rfl; simp [notTup] at h
/-- an operation that leaves a value, and boxes turned -/
theorem ok_eff {op : Op} {rh : List Nat} {e : Eff} (hd : dOk nt d = true)
    (h : ∀ B T' H' a w, Rel E nt B T' H' a w → (∀ y ∈ op.operands.toList, evalO T' y = evalO T y) → (∀ g ∈ rh, H' g = H g) → (∀ p ∈ e.wr, H' p.1 = H p.1) →
      ∃ v w' B', (execOp a.eval ⟨d, op, ty, pos, af, gd⟩).run P w = .ok (.value v) w' ∧ Rel E nt B' T' (updH H' e.wr) a w' ∧ Rdv (unst E B' (updH H' e.wr)) w' B' (updH H' e.wr) e.val v) : OpOK P E nt ops ⟨d, op, ty, pos, af, gd⟩ T H rh e := by
  intro T' H' ht hh hw B a w r K Q hK
  obtain ⟨v, w', B', h1, h2, h3⟩ := h B T' H' a w r (fun y hy => agree_op ht hy) hh hw
  unfold Oper.wp
  rw [h1]
  exact hK B' _ w' (h2.put hd h3)
theorem pack_cells {U : Uns} {w : World} {B : Blk} {H : Hp} {x : AV} {c : List Value} (h : Rd U w x B H c) : (pack x c).cells = c.toArray := by
  cases hx : isAggA x
  · have he := (Rd_pack h).2 hx
    have hm : pack x c ∈ c := by
      generalize hv : pack x c = v at he
      rw [he]; simp
    have h1 := Rd_one x h (pack x c) hm
    have : (pack x c).cells = #[pack x c] := by
      generalize pack x c = v at h1
      cases v <;> simp [Value.oneCell'] at h1 <;> rfl
    rw [this]
    generalize hv : pack x c = v at he
    rw [he]
  · rw [(Rd_pack h).1 hx]; rfl
theorem run_storeVar_of {t : TypeId} {g : Bool} {n : Nat} (ht : TyOf P t g n) {b off : Nat} {w : World} {C : Array Value} {tt : TypeId} {v : Value} {c : List Value} (hv : v.cells = c.toArray) (hb : w.heap[b]? = some (.cells C tt (0, 0))) (hl : c.length = n) (hfit : off + n ≤ C.size) (h1 : ∀ u ∈ c, u.oneCell' = true) :
    (storeVar t ⟨b, off, none⟩ v).run P w = .ok () (putRow w b off c.toArray) := by
  have hs := storeCells_splice P b tt c off 0 C w (by simpa using hb) (by omega) h1
  have h2 : v.cells.toList = c := by rw [hv]
  have hz := run_sizeOf_of ht w
  have hsz : v.cells.size = n := by rw [hv]; simpa using hl
  simp only [storeVar, Sem.run_bind, hz, Result.andThen_ok, hsz, ne_eq, not_true, if_false, h2]
  simpa using hs
theorem turned_put {w : World} {b off : Nat} {cs : Array Value} : Turned w (putRow w b off cs) b := ⟨rfl, rfl, rfl, putRow_size .., fun k hk => putRow_heap_other hk⟩
theorem splice_mid {c1 c2 c3 c' : List Value} (h : c'.length = c2.length) : splice (c1 ++ c2 ++ c3).toArray c1.length c'.toArray = (c1 ++ c' ++ c3).toArray := by
  unfold splice
  apply Array.ext'
  simp [List.drop_append, List.take_append, h]
theorem ok_store {x y : Operand} {t : TypeId} {g off : Nat} {p : List Nat} {v z old z' : AV} (hd : dOk nt d = true) (hx : evalO T x = some (.ptr g off p)) (hy : evalO T y = some v) (hg : H g = some (.var z)) (hp : subA p z = some old) (ho : offA p z = off) (hv : setA v p z = some z')
    (hs : tb.sa t = some (isAggA v, sizeA v)) (hs' : sizeA v = sizeA old) (hnt : notTup v = true) : OpOK P E nt ops ⟨none, .store t x y, ty, pos, af, gd⟩ T H [] ⟨.tup [], [(g, .var z')]⟩ := by
  intro T' H' ht hh hw B a w r K Q hK
  have h := Rdv_one (by simp) (r.eval ((agree_op ht (by simp [Op.operands])).trans hx)) rfl
  have hv2 := r.eval ((agree_op ht (x := y) (by simp [Op.operands])).trans hy)
  rw [Rdv_not (notTup_ne hnt)] at hv2
  obtain ⟨c', hc1, hc2⟩ := hv2
  simp only [Rd] at h
  obtain ⟨_, b, h1, h2⟩ := h
  injection h2 with h2
  have hg' : H' g = some (.var z) := (hw (g, .var z') (by simp)).trans hg
  obtain ⟨b', cs, tt, k1, k2, k3, k4⟩ := r.box g _ hg'
  rw [h1] at k1; injection k1 with k1; subst k1
  obtain ⟨c1, c2, c3, rfl, m1, m2, m3⟩ := Rd_sub p k3 hp
  have hl : c'.length = c2.length := by rw [Rd_len hc1, Rd_len m2, hs']
  have hst := run_storeVar_of (tb.tyOf hs) (off := off) (v := a.eval y) (c := c') (by rw [hc2]; exact pack_cells hc1) k2 (Rd_len hc1) (by rw [← ho, ← m1, ← Rd_len hc1, hl]; simp <;> omega) (Rd_one v hc1)
  unfold Oper.wp
  have he : (execOp a.eval ⟨none, .store t x y, ty, pos, af, gd⟩).run P w = .ok .skip (putRow w b off c'.toArray) := by
    simp [execOp, h2, Instr.storeAt, Instr.sureAddr, hst]
  rw [he]
  refine hK B _ _ ?_
  have := r.store (x' := z') (cs' := c1 ++ c' ++ c3) hg' h1 k2 (turned_put (off := off) (cs := c'.toArray)) (by rw [putRow_heap_same k2, ← ho, ← m1, splice_mid hl]) (by simp [hl]) (m3 v z' c' hv hc1 hl)
  exact this
/-- the zero value of a type -/
def ZeroOk (P : Program) (t : TypeId) (z : AV) : Prop := ∃ i zv, P.info? t = some i ∧ i.zero = some zv ∧ ∀ U w, Rd U w z B0 H0 zv.cells.toList
theorem ok_alloc {e : TypeId} {z : AV} {g : Nat} (hd : dOk nt d = true) (hz : ZeroOk P e z) (hg : H g = none) : OpOK P E nt ops ⟨d, .alloc e, ty, pos, af, gd⟩ T H [] ⟨.ptr g 0 [], [(g, .var z)]⟩ :=
  ok_eff hd fun B T' H' a w r ht hh hw => by
    obtain ⟨i, zv, h1, h2, h3⟩ := hz
    have hg' : H' g = none := (hw (g, .var z) (by simp)).trans hg
    refine ⟨.pointer (some ⟨w.heap.size, 0, none⟩), w.alloc (.cells zv.cells e), upd B g w.heap.size, ?_, r.new hg' ?_, ?_⟩
    · simp [execOp, Instr.alloc, zeroValue, typeInfo, h1, h2, newVar, newRow]
    · exact ⟨w.heap.size, zv.cells.toList, e, upd_same _ _ _, by rw [heap_alloc_new], Rd_free z (h3 _ _), .inl r.left.size⟩
    · rw [Rdv_not (by simp)]
      exact ⟨[_], by simp only [Rd]; exact ⟨by simp [updH, upd_same, isVar], w.heap.size, upd_same _ _ _, rfl⟩, rfl⟩
theorem ok_box {e : TypeId} {x : Operand} {z : AV} {g : Nat} (hd : dOk nt d = true) (hx : evalO T x = some z) (hnt : notTup z = true) (hg : H g = none) : OpOK P E nt ops ⟨d, .box e x, ty, pos, af, gd⟩ T H [] ⟨.ptr g 0 [], [(g, .var z)]⟩ :=
  ok_eff hd fun B T' H' a w r ht hh hw => by
    have hg' : H' g = none := (hw (g, .var z) (by simp)).trans hg
    have hv := r.eval ((ht x (by simp [Op.operands])).trans hx)
    rw [Rdv_not (notTup_ne hnt)] at hv
    obtain ⟨c, h1, h2⟩ := hv
    have hlt : ∀ j bj b, H' j = some bj → B j = some b → b < w.heap.size := fun j bj b h1 h2 => r.blk_lt h1 h2
    have pic : Pic w (w.alloc (.cells c.toArray e)) B (upd B g w.heap.size) H' (upd H' g (.var z)) := by
      refine ⟨fun j b h1 h2 => ?_, fun j h => ?_, fun t n len A cap h => ?_⟩
      · have hj : j ≠ g := fun e => by rw [e, hg'] at h1; cases h1
        rw [upd_ne _ _ hj]; exact h2
      · have hj : j ≠ g := fun e => by rw [e, hg'] at h; cases h
        rw [upd_ne _ _ hj]; exact h
      · obtain ⟨e, k, h1, h2, h3⟩ := h
        have hj : t ≠ g := fun e => by rw [e, hg'] at h1; cases h1
        refine ⟨e, k, by rw [upd_ne _ _ hj]; exact h1, h2, ?_⟩
        rw [upd_ne _ _ hj]
        refine fun hk => ⟨(h3 hk).1, fun b hb => ?_⟩
        obtain ⟨k1, cur, k2, k3⟩ := (h3 hk).2 b hb
        exact ⟨k1, cur, (heap_old w _ b (heap_lt k2)).trans k2, k3⟩
    refine ⟨.pointer (some ⟨w.heap.size, 0, none⟩), w.alloc (.cells c.toArray e), upd B g w.heap.size, ?_, r.new hg' ?_, ?_⟩
    · simp [execOp, Instr.box, newVar, newRow, h2, pack_cells h1]
    · exact ⟨w.heap.size, c, e, upd_same _ _ _, by rw [heap_alloc_new], Rd_go (Evo.ofExt ((Ext.refl w).alloc _)) (unst_new hlt) z pic h1, .inl r.left.size⟩
    · rw [Rdv_not (by simp)]
      exact ⟨[_], by simp only [Rd]; exact ⟨by simp [updH, upd_same, isVar], w.heap.size, upd_same _ _ _, rfl⟩, rfl⟩

/-! ### calls -/
theorem ok_call {f : FuncId} {fn : Func} {args : Array Operand} {ats : Array TypeId} {xs ys : List AV} {y : AV} (hd : dOk nt d = true) (hf : P.funcs[f]? = some fn) (hb : fn.body.isSome = true) (hnm : (fn.name == "runtime.NumGoroutine") = false)
    (hx : args.toList.map (evalO T) = xs.map some) (hc : AFn P f ys y) (hw : ∀ H', WkL H' xs ys) (hnt : xs.all notTup = true) : OpOK P E nt ops ⟨d, .call { callee := .value (.func f), args := args, argTypes := ats }, ty, pos, af, gd⟩ T H [] ⟨y, []⟩ := by
  intro T' H' ht _ _ B a w r K Q hK
  have hargs : ∀ (l : List Operand) (zs : List AV), (∀ o ∈ l, o ∈ args.toList) → l.map (evalO T) = zs.map some → (∀ z ∈ zs, ∀ us, z ≠ .tup us) → Rdp (unst E B H') w zs B H' (l.map a.eval) := by
    intro l
    induction l with
    | nil =>
      intro zs _ h _
      have : zs = [] := by simpa using h.symm
      subst this
      simp [Rdp]
    | cons o l ih =>
      intro zs hm h hn
      cases zs with
      | nil => simp at h
      | cons z zs =>
        simp only [List.map_cons, List.cons.injEq] at h
        have ho := r.eval ((agree_op ht (x := o) (by simp [Op.operands, Call.operands]; right; simpa using hm o List.mem_cons_self)).trans h.1)
        rw [Rdv_not (hn z List.mem_cons_self)] at ho
        obtain ⟨c, h1, h2⟩ := ho
        simp only [List.map_cons, Rdp]
        exact ⟨c, _, by rw [h2], h1, ih zs (fun o ho => hm o (List.mem_cons_of_mem _ ho)) h.2 (fun z hz => hn z (List.mem_cons_of_mem _ hz))⟩
  have hnt' : ∀ z ∈ xs, ∀ us, z ≠ .tup us := fun z hz => notTup_ne (List.all_eq_true.1 hnt z hz)
  have h1 := (hw H').rdp (hargs args.toList xs (fun _ h => h) hx hnt')
  have h2 := hc _ w _ h1
  unfold Oper.wp
  have he : (execOp a.eval ⟨d, .call { callee := .value (.func f), args := args, argTypes := ats }, ty, pos, af, gd⟩).run P w = .ok (.enter f (args.toList.map a.eval).toArray) w := by
    have hb' : fn.body ≠ none := by cases h : fn.body <;> simp_all
    have hn' : fn.name ≠ "runtime.NumGoroutine" := by simpa using hnm
    have ha : (args.toList.map a.eval).toArray = args.map a.eval := by apply Array.ext'; simp
    rw [ha]
    simp [execOp, resolve, Deferred.ofValue, Act.eval, invoke, callFunc, hf, hn', hb']
  rw [he]
  refine Calls.mono h2 ?_
  rintro e w' ⟨v, rfl, h3, h4⟩
  exact hK B _ w' ((r.ext h4).put hd (Rdv_free (Rdv_sub (fun b o h => ⟨r.unst_lt h, h⟩) h3)))

/-! ### appends -/
theorem sl_parts {U : Uns} {w : World} {B : Blk} {H : Hp} {tok : Option Nat} {n : Nat} {xs : List AV} {v : Value} (h : Rd U w (.sl tok n xs) B H [v]) : ∃ A cap, v = .slice A xs.length cap ∧ xs.length ≤ cap ∧ cap ≤ maxLen := by
  simp only [Rd] at h
  obtain ⟨A, cap, h1, h2, h3, _⟩ := h
  injection h1 with h1
  exact ⟨A, cap, h1, h2, h3⟩
theorem firstCells_nil {w : World} (s c : Nat) : (Builtin.firstCells s 0 (.slice none 0 c)).run P w = .ok #[] w := by simp [Builtin.firstCells]
theorem setCells_turned (w : World) (b o : Nat) (vs : List Value) {C : Array Value} {tt : TypeId} (hb : w.heap[b]? = some (.cells C tt (0, 0))) (hf : o + vs.length ≤ C.size) (h1 : ∀ v ∈ vs, v.oneCell' = true) :
    (storeCells ⟨b, o, none⟩ vs).run P w = .ok () (putRow w b o vs.toArray) := by
  have := storeCells_splice P b tt vs o 0 C w (by simpa using hb) (by omega) h1
  simpa using this
theorem run_append_put {w : World} {t tx ty e : TypeId} {i : TypeInfo} (ht : P.underlying t = some (.slice e)) (hi : P.info? e = some i) {b sLen sCap n : Nat} {x : Value} {news : List Value} (hs : Src P i.size tx x n news w) (hroom : sLen + n ≤ sCap)
    {C : Array Value} {tt : TypeId} (hb : w.heap[b]? = some (.cells C tt (0, 0))) (hf : sLen * i.size + news.length ≤ C.size) :
    (Builtin.append_ #[t, tx] ty #[.slice (some ⟨b, 0, none⟩) sLen sCap, x]).run P w = .ok (.slice (some ⟨b, 0, none⟩) (sLen + n) sCap) (putRow w b (sLen * i.size) news.toArray) := by
  have hst := setCells_turned (P := P) w b (sLen * i.size) news hb hf hs.one
  have ha := add_lit b 0 (sLen * i.size)
  rw [Nat.zero_add] at ha
  rcases hs.kind with ⟨e', hk⟩ | hk <;> simp [Builtin.append_, run_underlying ht, run_underlying hk, sizeOf, typeInfo, hi, hs.len, hroom, hs.cells, ha, hst]
/-- append onto a row of the function's own -/
theorem append_run {B : Blk} {a : Act} {w : World} {t tx ty e : TypeId} {es bytes : Nat} {ea : Bool} {tk : Nat} {xs ys : List AV} {sv yv : Value} (r : Rel E nt B T H a w) (hs : tb.ti t = some (.sl e es bytes ea)) (h : Rd (unst E B H) w (.sl (some tk) es xs) B H [sv]) (hg' : H tk = some (.tail e es xs.length))
    (hsrc : SrcA P E B H w tx es yv ys) (hlen : (xs.length + ys.length) * bytes ≤ 140737488355328) (hlen2 : xs.length + ys.length ≤ 9223372036854775807) :
    ∃ v w' B', (Builtin.append_ #[t, tx] ty #[sv, yv]).run P w = .ok v w' ∧ Rel E nt B' T (upd H tk (.tail e es (xs.length + ys.length))) a w' ∧ Rd (unst E B' (upd H tk (.tail e es (xs.length + ys.length)))) w' (.sl (some tk) es (xs ++ ys)) B' (upd H tk (.tail e es (xs.length + ys.length))) [v] := by
    have h0 := h
    obtain ⟨news, hS, hN⟩ := hsrc
    obtain ⟨_, hu, _, i, z, hi, hz, his, hib, hzs⟩ := tb.ok t _ hs
    subst his hib
    have hnl := Rdu_len hN
    simp only [Rd] at h
    obtain ⟨A, cap, h1, h2, h3, h4, h5⟩ := h
    injection h1 with h1
    obtain ⟨e', k, m1, m2, m3⟩ := h5 tk rfl
    rw [hg'] at m1
    injection m1 with m1
    injection m1 with q1 q2 q3
    subst q1 q3
    obtain ⟨n1, n2⟩ := m3 rfl
    have hfl : ys.length = 0 → ys = [] := List.eq_nil_of_length_eq_zero
    by_cases hm : ys.length = 0
    · obtain rfl := hfl hm
      obtain rfl : news = [] := List.eq_nil_of_length_eq_zero (by simpa using hnl)
      have hr := run_append_nothing (P := P) w t tx ty e i hu hi A xs.length cap h2 yv hS
      refine ⟨_, w, B, by rw [h1]; exact hr, ?_, ?_⟩
      · simp only [List.length_nil, Nat.add_zero]
        rw [upd_eta hg']; exact r
      · simp only [List.length_nil, Nat.add_zero, List.append_nil]
        rw [upd_eta hg', ← h1]; exact h0
    · have hpos := (r.box tk _ hg').1
      have hbox := (r.box tk _ hg').2
      have h63 : ((xs.length + ys.length : Nat) : Int) ≤ 9223372036854775807 := by omega
      have hcmax : ∀ c, grownCap w (xs.length + ys.length) c e ≤ maxLen := fun c => grownCap_le_maxLen w _ c e (by unfold maxLen; omega)
      -- a new block
      have fresh : ∀ (olds : List Value) (c : Nat), c < xs.length + ys.length → Rdu (unst E B H) w i.size xs B0 H0 olds →
          (Builtin.firstCells i.size xs.length (.slice A xs.length c)).run P w.drew = .ok olds.toArray w.drew → cap = c → ∃ v w' B', (Builtin.append_ #[t, tx] ty #[sv, yv]).run P w = .ok v w' ∧ Rel E nt B' T (upd H tk (.tail e i.size (xs.length + ys.length))) a w' ∧
            Rd (unst E B' (upd H tk (.tail e i.size (xs.length + ys.length)))) w' (.sl (some tk) i.size (xs ++ ys)) B' (upd H tk (.tail e i.size (xs.length + ys.length))) [v] := by
        intro olds c hc hO hold hcap
        subst hcap
        have hol := Rdu_len hO
        have hr := run_append_grow_src (P := P) w t tx ty e i z hu hi hz A xs.length cap olds hold yv ys.length news hS hc h63 (growslice_fits (by omega) (by exact hlen))
        have hge := grownCap_ge w (xs.length + ys.length) cap e
        have hsz : ((olds ++ news).toArray ++ Builtin.zeroCells z.cells (grownCap w (xs.length + ys.length) cap e - (xs.length + ys.length))).size = grownCap w (xs.length + ys.length) cap e * i.size := by
          simp only [Array.size_append, List.size_toArray, List.length_append, size_zeroCells, hzs, hol, hnl, ← Nat.add_mul]
          congr 1; omega
        have hrow : row? (w.drew.alloc (.cells ((olds ++ news).toArray ++ Builtin.zeroCells z.cells (grownCap w (xs.length + ys.length) cap e - (xs.length + ys.length))) e)) w.heap.size 0 ((xs ++ ys).length * i.size) = some (olds ++ news).toArray := by
          refine (row_block (b := w.heap.size) (heap_alloc_new w.drew _)).trans ?_
          unfold rowOf
          have hl2 : (xs ++ ys).length * i.size = (olds ++ news).length := by simp [hol, hnl, Nat.add_mul]
          rw [if_pos (by rw [hsz, List.length_append]; have := Nat.mul_le_mul_right i.size hge; omega), hl2]
          congr 1
          apply Array.ext'
          simp
          exact List.take_of_length_le (by simp)
        have hreg := r.regrow (k' := xs.length + ys.length) (o := .cells ((olds ++ news).toArray ++ Builtin.zeroCells z.cells (grownCap w (xs.length + ys.length) cap e - (xs.length + ys.length))) e) hg' (by omega)
          ⟨hpos, .inr ⟨w.heap.size, _, grownCap w (xs.length + ys.length) cap e, upd_same _ _ _, heap_alloc_new w.drew _, hsz, hge, hcmax cap, r.left.size⟩⟩
        refine ⟨_, _, _, by rw [h1]; exact hr, hreg, ?_⟩
        simp only [Rd]
        have hsub : ∀ b o, b < w.heap.size → unst E (upd B tk w.heap.size) (upd H tk (.tail e i.size (xs.length + ys.length))) b o → unst E B H b o := unst_new fun j bj b h1 h2 => r.blk_lt h1 h2
        have hext : Ext w (w.drew.alloc (.cells ((olds ++ news).toArray ++ Builtin.zeroCells z.cells (grownCap w (xs.length + ys.length) cap e - (xs.length + ys.length))) e)) := (Ext.refl w).drew.alloc _
        refine ⟨some ⟨w.heap.size, 0, none⟩, grownCap w (xs.length + ys.length) cap e, by simp, by simpa using hge, hcmax cap, fun _ => ⟨w.heap.size, 0, olds ++ news, rfl, hrow, fun o _ ho hun => ?_, ?_⟩, fun t' ht' => ?_⟩
        · have hlt := hreg.left.size
          rcases hun with ⟨hlt', _⟩ | ⟨j, hj1, hj2⟩
          · have := r.left.size; omega
          · by_cases hj : j = tk
            · subst hj
              rw [upd_same] at hj2
              have hj2' : (xs.length + ys.length) * i.size ≤ o := hj2
              simp at ho; omega
            · rw [upd_ne _ _ hj] at hj1 hj2
              cases hh : H j with
              | none => rw [hh] at hj2; exact hj2
              | some bj => have := r.blk_lt hh hj1; omega
        · exact Rdu_append (Rdu_go (Evo.ofExt hext) hsub _ xs (Pic.refl0 _ _) hO) (Rdu_go (Evo.ofExt hext) hsub _ ys (Pic.refl0 _ _) hN)
        · injection ht' with ht'
          subst ht'
          refine ⟨e, xs.length + ys.length, upd_same _ _ _, by simp, fun _ => ⟨fun hn => ?_, fun b hb => ?_⟩⟩
          · rw [upd_same] at hn; cases hn
          · rw [upd_same] at hb
            injection hb with hb
            subst hb
            exact ⟨rfl, _, heap_alloc_new w.drew _, hsz⟩
      -- the row as it is
      obtain ⟨olds, hO, hR⟩ : ∃ olds, Rdu (unst E B H) w i.size xs B0 H0 olds ∧ ∀ b, B tk = some b → row? w b 0 (xs.length * i.size) = some olds.toArray := by
        by_cases h0 : xs.length = 0
        · obtain rfl : xs = [] := List.eq_nil_of_length_eq_zero h0
          refine ⟨[], by simp [Rdu], fun b hb => ?_⟩
          obtain ⟨_, cur, k1, _⟩ := n2 b hb
          rw [row_block k1]
          unfold rowOf
          rw [if_pos (by simp)]
          simp
        · obtain ⟨b, off, c, hA, k1, k2, k3⟩ := h4 (by omega)
          refine ⟨c, k3, fun b' hb' => ?_⟩
          obtain ⟨hA', _⟩ := n2 b' hb'
          rw [hA] at hA'
          injection hA' with hA'
          injection hA' with e1 e2
          subst e1 e2
          exact k1
      have hol := Rdu_len hO
      rcases hbox with ⟨hbn, hk0⟩ | ⟨b, cur0, cap0, hb, hcur0, _, _, _, hbw⟩
      · obtain ⟨hA, hc0⟩ := n1 hbn
        obtain rfl : xs = [] := List.eq_nil_of_length_eq_zero hk0
        obtain rfl : olds = [] := List.eq_nil_of_length_eq_zero (by simpa using hol)
        exact fresh [] cap (by simp; omega) hO (by rw [hA]; simp [Builtin.firstCells]) rfl
      · obtain ⟨hA, cur, hcur, hcs⟩ := n2 b hb
        have hrow0 := hR b hb
        by_cases hroom : xs.length + ys.length ≤ cap
        · have hfit : xs.length * i.size + news.length ≤ cur.size := by rw [hnl, hcs, ← Nat.add_mul]; exact Nat.mul_le_mul_right _ hroom
          have hr := run_append_put (P := P) (ty := ty) hu hi hS hroom hcur hfit
          have hput := putRow_heap_same (off := xs.length * i.size) (cs := news.toArray) hcur
          have hsp : (splice cur (xs.length * i.size) news.toArray).size = cur.size := splice_size _ _ _ (by simpa using hfit)
          have hge : ∀ o, o < xs.length * i.size → (splice cur (xs.length * i.size) news.toArray)[o]? = cur[o]? := fun o ho => by rw [splice_get (by simpa using hfit), if_neg (by omega)]
          have hrm := r.room (k' := xs.length + ys.length) hg' (by omega) hb hcur hcs hroom h3 turned_put hput hsp hge
          refine ⟨_, _, B, by rw [h1, hA]; exact hr, hrm, ?_⟩
          have hsub : ∀ b' o, b' < w.heap.size → unst E B (upd H tk (.tail e i.size (xs.length + ys.length))) b' o → unst E B H b' o := by
            rintro b' o _ (h | ⟨j, hj1, hj2⟩)
            · exact .inl h
            · refine .inr ⟨j, hj1, ?_⟩
              by_cases hj : j = tk
              · subst hj
                rw [upd_same] at hj2
                rw [hg']
                have h' : (xs.length + ys.length) * i.size ≤ o := hj2
                have : xs.length * i.size ≤ (xs.length + ys.length) * i.size := Nat.mul_le_mul_right _ (by omega)
                show xs.length * i.size ≤ o
                omega
              · rwa [upd_ne _ _ hj] at hj2
          have hevo : Evo (unst E B H) w (putRow w b (xs.length * i.size) news.toArray) := turned_put.evo hcur hput hsp fun o ho => by
            rcases Nat.lt_or_ge o (xs.length * i.size) with h' | h'
            · exact hge o h'
            · exact absurd (.inr ⟨tk, hb, by rw [hg']; exact h'⟩) ho
          simp only [Rd]
          refine ⟨some ⟨b, 0, none⟩, cap, by simp, by simpa using hroom, h3, fun _ => ⟨b, 0, olds ++ news, rfl, ?_, fun o _ ho hun => ?_, ?_⟩, fun t' ht' => ?_⟩
          · rw [row_block hput]
            rw [row_block hcur] at hrow0
            obtain ⟨r1, r2, r3⟩ := rowOf_spec hrow0
            have hl2 : (xs ++ ys).length * i.size = (olds ++ news).length := by simp [hol, hnl, Nat.add_mul]
            unfold rowOf
            rw [if_pos (by rw [hsp, hl2]; simp; omega)]
            congr 1
            apply Array.ext_getElem?
            intro q
            rw [Array.getElem?_extract, hsp]
            by_cases hq : q < (olds ++ news).length
            · rw [if_pos (by rw [hl2]; simp at hq ⊢; omega), Nat.zero_add, splice_get (by simpa using hfit)]
              by_cases hq2 : q < xs.length * i.size
              · have := r3 q hq2
                rw [Nat.zero_add] at this
                rw [if_neg (by omega), this]
                simp [List.getElem?_append, show q < olds.length by omega]
              · rw [if_pos (by simp at hq ⊢; omega)]
                simp [List.getElem?_append, show ¬ q < olds.length by omega, hol]
                intro h'; omega
            · rw [if_neg (by rw [hl2]; simp at hq ⊢; omega), Array.getElem?_eq_none (by simpa using hq)]
          · have hblt := heap_lt hcur
            rcases hun with ⟨hlt', _⟩ | ⟨j, hj1, hj2⟩
            · omega
            · by_cases hj : j = tk
              · subst hj
                rw [upd_same] at hj2
                have hj2' : (xs.length + ys.length) * i.size ≤ o := hj2
                simp at ho; omega
              · rw [upd_ne _ _ hj] at hj2
                cases hh : H j with
                | none => rw [hh] at hj2; exact hj2
                | some bj =>
                  rw [hh] at hj2
                  refine hj (r.inj j tk b ?_ (by rw [hg']; rfl) hj1 hb)
                  rw [hh]
                  cases bj <;> first | rfl | exact hj2.elim
          · exact Rdu_append (Rdu_go hevo hsub _ xs (Pic.refl0 _ _) hO) (Rdu_go hevo hsub _ ys (Pic.refl0 _ _) hN)
          · injection ht' with ht'
            subst ht'
            refine ⟨e, xs.length + ys.length, upd_same _ _ _, by simp, fun _ => ⟨fun hn => ?_, fun b' hb' => ?_⟩⟩
            · rw [hb] at hn; cases hn
            · rw [hb] at hb'
              injection hb' with hb'
              subst hb'
              exact ⟨rfl, _, hput, by rw [hsp]; exact hcs⟩
        · refine fresh olds cap (by omega) hO ?_ rfl
          rw [hA]
          exact run_firstCells_some (P := P) w.drew i.size xs.length ⟨b, 0, none⟩ xs.length cap olds (by rw [hol]) (by simpa using cells_of_row hrow0)

theorem unst_none {B : Blk} {g : Nat} {bx : Bx} (hg : H g = none) (hb : B g = none) {b o : Nat} : unst E B (upd H g bx) b o ↔ unst E B H b o := by
  unfold unst
  refine or_congr Iff.rfl (exists_congr fun j => and_congr_right fun hj => ?_)
  by_cases h : j = g
  · subst h; rw [hb] at hj; cases hj
  · rw [upd_ne _ _ h]
/-- a row that has no block yet -/
theorem Rel.token {B : Blk} {a : Act} {w : World} (r : Rel E nt B T H a w) {g n : Nat} {e : TypeId} (hg : H g = none) (hn : 0 < n) : Rel E nt B T (upd H g (.tail e n 0)) a w := by
  have hb := r.non g hg
  have pic : Pic w w B B H (upd H g (.tail e n 0)) := by
    refine ⟨fun _ _ _ h => h, fun j h => ?_, fun t n len A cap h => ?_⟩
    · have hj : j ≠ g := fun e => by rw [e, hg] at h; cases h
      rw [upd_ne _ _ hj]; exact h
    · obtain ⟨e', k, h1, h2⟩ := h
      have hj : t ≠ g := fun e => by rw [e, hg] at h1; cases h1
      exact ⟨e', k, by rw [upd_ne _ _ hj]; exact h1, h2⟩
  refine r.move (Evo.refl _ w) (fun b o _ h => (unst_none hg hb).1 h) pic r.left (fun j bj h => ?_) (fun j h => ?_) (fun j j' b h1 h2 h3 h4 => ?_)
  · by_cases hj : j = g
    · subst hj; rw [upd_same] at h; injection h with h; subst h; exact .inl ⟨hn, .inl ⟨hb, rfl⟩⟩
    · rw [upd_ne _ _ hj] at h
      exact .inr ⟨h, rfl, fun _ _ _ => rfl⟩
  · by_cases hj : j = g
    · subst hj; rw [upd_same] at h; cases h
    · rw [upd_ne _ _ hj] at h; exact r.non j h
  · have hne : ∀ j, B j = some b → j ≠ g := fun j h e => by rw [e, hb] at h; cases h
    rw [upd_ne _ _ (hne j h3)] at h1
    rw [upd_ne _ _ (hne j' h4)] at h2
    exact r.inj j j' b h1 h2 h3 h4
theorem nil_token {U : Uns} {w : World} {B : Blk} {g n : Nat} {e : TypeId} (hg : H g = some (.tail e n 0)) (hb : B g = none) : Rd U w (.sl (some g) n []) B H [.slice none 0 0] := by
  simp only [Rd]
  refine ⟨none, 0, rfl, Nat.le_refl _, Nat.zero_le _, fun h => absurd h (by simp), fun t ht => ?_⟩
  injection ht with ht
  subst ht
  exact ⟨e, 0, hg, Nat.le_refl _, fun _ => ⟨fun _ => ⟨rfl, rfl⟩, fun b hb' => by rw [hb] at hb'; cases hb'⟩⟩
theorem SrcA.congr {B : Blk} {H' : Hp} {w : World} {tx : TypeId} {n : Nat} {v : Value} {ys : List AV} (h : SrcA P E B H w tx n v ys) (hu : ∀ b o, unst E B H' b o → unst E B H b o) : SrcA P E B H' w tx n v ys := by
  obtain ⟨news, h1, h2⟩ := h
  exact ⟨news, h1, Rdu_go (Evo.refl _ w) (fun b o _ h => hu b o h) n ys (Pic.refl0 _ _) h2⟩
/-- what an append's second operand may be -/
def SrcOf (P : Program) (tx : TypeId) (n : Nat) (src : AV) (ys : List AV) : Prop := ∀ E B H w v, Rdv (unst E B H) w B H src v → SrcA P E B H w tx n v ys
theorem src_sl {tx e : TypeId} {es bytes : Nat} {ea : Bool} {tok : Option Nat} {ys : List AV} (hs : tb.ti tx = some (.sl e es bytes ea)) : SrcOf P tx es (.sl tok es ys) ys := fun E B H w v h =>
  SrcA_sl (tb.ok tx _ hs).2.1 (Rdv_one (by simp) h rfl)
theorem src_nil {tx e : TypeId} {es bytes n : Nat} {ea : Bool} (hs : tb.ti tx = some (.sl e es bytes ea)) : SrcOf P tx n (.v (.slice none 0 0)) [] := fun E B H w v h => by
  rw [Rdv_v] at h
  rw [h.2]
  exact SrcA_nil (tb.ok tx _ hs).2.1
theorem src_str {tx : TypeId} {s : ByteArray} (hs : P.underlying tx = some .string) : SrcOf P tx 1 (.v (.string s)) (bytesAV s) := fun E B H w v h => by
  rw [Rdv_v] at h
  rw [h.2]
  exact SrcA_str hs
theorem ok_append {s x : Operand} {t tx e : TypeId} {es bytes : Nat} {ea : Bool} {tk : Nat} {xs ys : List AV} {src : AV} (hd : dOk nt d = true) (hs : tb.ti t = some (.sl e es bytes ea)) (hx : evalO T s = some (.sl (some tk) es xs)) (hg : H tk = some (.tail e es xs.length))
    (hy : evalO T x = some src) (hsrc : SrcOf P tx es src ys) (hlen : (xs.length + ys.length) * bytes ≤ 140737488355328) (hlen2 : xs.length + ys.length ≤ 9223372036854775807) :
    OpOK P E nt ops ⟨d, .call { callee := .builtin .append, args := #[s, x], argTypes := #[t, tx] }, ty, pos, af, gd⟩ T H [tk] ⟨.sl (some tk) es (xs ++ ys), [(tk, .tail e es (xs.length + ys.length))]⟩ :=
  ok_eff hd fun B T' H' a w r ht hh hw => by
    have hg' : H' tk = some (.tail e es xs.length) := (hh tk (by simp)).trans hg
    have h := Rdv_one (by simp) (r.eval ((ht s (by simp [Op.operands, Call.operands])).trans hx)) rfl
    obtain ⟨v, w', B', h1, h2, h3⟩ := append_run tb (ty := ty) r hs h hg' (hsrc E B H' w _ (r.eval ((ht x (by simp [Op.operands, Call.operands])).trans hy))) hlen hlen2
    refine ⟨v, w', B', by simp [execOp, resolve, invoke, builtin, h1], h2, ?_⟩
    rw [Rdv_not (by simp)]
    exact ⟨[v], h3, rfl⟩
/-- append onto nil: a row is made -/
theorem ok_append_nil {s x : Operand} {t tx e : TypeId} {es bytes : Nat} {ea : Bool} {tk : Nat} {ys : List AV} {src : AV} (hd : dOk nt d = true) (hs : tb.ti t = some (.sl e (es + 1) bytes ea)) (hx : evalO T s = some (.v (.slice none 0 0))) (hg : H tk = none)
    (hy : evalO T x = some src) (hsrc : SrcOf P tx (es + 1) src ys) (hlen : ys.length * bytes ≤ 140737488355328) (hlen2 : ys.length ≤ 9223372036854775807) :
    OpOK P E nt ops ⟨d, .call { callee := .builtin .append, args := #[s, x], argTypes := #[t, tx] }, ty, pos, af, gd⟩ T H [] ⟨.sl (some tk) (es + 1) ys, [(tk, .tail e (es + 1) ys.length)]⟩ :=
  ok_eff hd fun B T' H' a w r ht hh hw => by
    have hg' : H' tk = none := (hw (tk, .tail e (es + 1) ys.length) (by simp)).trans hg
    have hb := r.non tk hg'
    have h := r.evalv ((ht s (by simp [Op.operands, Call.operands])).trans hx)
    have hS := (hsrc E B H' w _ (r.eval ((ht x (by simp [Op.operands, Call.operands])).trans hy))).congr (H' := upd H' tk (.tail e (es + 1) 0)) (fun b o h => (unst_none hg' hb).1 h)
    obtain ⟨v, w', B', h1, h2, h3⟩ := append_run tb (ty := ty) (xs := []) (r.token (e := e) hg' (Nat.succ_pos es)) hs (nil_token (upd_same _ _ _) hb) (upd_same _ _ _) hS (by simpa using hlen) (by simpa using hlen2)
    have eu : upd (upd H' tk (.tail e (es + 1) 0)) tk (.tail e (es + 1) (([] : List AV).length + ys.length)) = upd H' tk (.tail e (es + 1) ys.length) := by
      funext j
      simp only [upd, List.length_nil, Nat.zero_add]
      split <;> rfl
    rw [eu] at h2 h3
    refine ⟨v, w', B', by simp [execOp, resolve, invoke, builtin, h, h1], h2, ?_⟩
    rw [Rdv_not (by simp)]
    exact ⟨[v], by rw [List.nil_append] at h3; exact h3, rfl⟩
end
end Go.Proofs.Ytigbkhjcboecjaa
