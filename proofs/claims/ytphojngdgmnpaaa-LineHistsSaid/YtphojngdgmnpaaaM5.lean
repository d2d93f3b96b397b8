/-
  M5: several texts as one: AbsX3, Line3, AbsIfc, AbsAct, LineOps, OwnBool, LineMore, Line4, Line5, Line6, Line7, Line8, Line9, Line10, Line11, Line12, Line13, Line14, Line15, LawLine1, LawLine2, LawLine3, LawLine4, LawLine5, LawLine6, LawLine7, LawLine8, LawLine9, LawLine10, LawLine11, LawLine12. No condition beyond those that each theorem states.
-/
import Derived.Test.YtphojngdgmnpaaaM4
namespace Go.Proofs.Ytphojngdgmnpaaa
open Go Go.RowKit
set_option linter.unusedVariables false
set_option linter.unusedSimpArgs false
set_option maxRecDepth 100000

/-- all stays but the map, which is o' -/
structure ExtB (b : Nat) (o' : Obj) (w w' : World) : Prop where
  os : w'.os = w.os
  tape : w'.tape = w.tape
  output : w'.output = w.output
  size : w.heap.size ≤ w'.heap.size
  block : ∀ k, k < w.heap.size → k ≠ b → w'.heap[k]? = w.heap[k]?
  at_ : w'.heap[b]? = some o'
theorem ExtB.ext {b : Nat} {o' : Obj} {w w' : World} (h : ExtB b o' w w') (hlt : b < w.heap.size) : Ext (World.putO w b o') w' :=
  ⟨h.os, h.tape, h.output, by simpa [World.putO] using h.size, fun k hk => by
    simp only [World.putO, Array.getElem?_setIfInBounds]
    by_cases c : b = k
    · subst c; rw [if_pos rfl, if_pos hlt]; exact h.at_
    · rw [if_neg c]; exact h.block k (by simpa [World.putO] using hk) (fun e => c e.symm)⟩
def MFn (P : Program) (f : FuncId) (b : Nat) (o : Obj) (args : List AV) (o' : Obj) (r : AV) : Prop :=
  ∀ (U : Uns) (w : World) (vs : List Value), w.heap[b]? = some o → Rdp U w args B0 H0 vs → Calls P f vs.toArray w fun e w' => ∃ v, e = .returned v ∧ Rdv (fun q k => q < w.heap.size ∧ U q k) w' B0 H0 r v ∧ ExtB b o' w w'
section
variable {P : Program} {E : Env} {b nt : Nat} {o o' : Obj}
theorem last_call {f : FuncId} {fn : Func} {l : List Operand} {ats : Array TypeId} {xs ys : List AV} {y : AV} {S : St} {d : Option Nat} {ty : TypeId} {pos : String} {af : Array Edge} {gd : Option (Nat × Bool)}
    (hd : dOk nt d = true) (hf : P.funcs[f]? = some fn) (hb : fn.body.isSome = true) (hnm : (fn.name == "runtime.NumGoroutine") = false) (hx : argsA S.t l = some xs) (hw : ∀ H', WkL H' xs ys) (hnt : xs.all notTup = true) (hc : MFn P f b o ys o' y)
    (hlt : b < E.w0.heap.size) (hn : ∀ k, ¬ E.ent k) (ho : isMapO o = true) (ho' : isMapO o' = true) : LastOK P E b nt ⟨d, .call { callee := .value (.func f), args := l.toArray, argTypes := ats }, ty, pos, af, gd⟩ o S o' (S.app d ⟨y, []⟩) := by
  intro B a w r K Q' hK
  have hbk := put_block hlt hn r
  have hwl : b < w.heap.size := Nat.lt_of_lt_of_le (by rw [Env.put_size]; exact hlt) r.left.size
  have hnt' : ∀ z ∈ xs, ∀ us, z ≠ .tup us := fun z hz => notTup_ne (List.all_eq_true.1 hnt z hz)
  have h1 := (hw S.h).rdp (args_rdp r l xs (argsA_map hx) hnt')
  have h2 := hc _ w _ hbk h1
  unfold Oper.wp
  have he : (execOp a.eval ⟨d, .call { callee := .value (.func f), args := l.toArray, argTypes := ats }, ty, pos, af, gd⟩).run P w = .ok (.enter f (l.map a.eval).toArray) w := by
    have hb' : fn.body ≠ none := by cases h : fn.body <;> simp_all
    have hn' : fn.name ≠ "runtime.NumGoroutine" := by simpa using hnm
    have ha : (l.map a.eval).toArray = l.toArray.map a.eval := by apply Array.ext'; simp
    rw [ha]
    simp [execOp, resolve, Deferred.ofValue, Act.eval, invoke, callFunc, hf, hn', hb']
  rw [he]
  refine Calls.mono h2 ?_
  rintro e w' ⟨v, rfl, h3, h4⟩
  have r1 := r.putO (b := b) (o := o) (o' := o') (by rw [Env.put_size]; exact hlt) (hn b) hbk ho ho'
  rw [Env.put_put] at r1
  have r2 := (r1.ext (h4.ext hwl)).put hd (x := y) (v := v) (Rdv_free (Rdv_sub (fun q k h => by
    rw [unst_put, ← unst_put E b o] at h
    exact ⟨r.unst_lt h, h⟩) h3))
  rw [← St.app_t S d ⟨y, []⟩] at r2
  have eh := St.app_h S d ⟨y, []⟩
  simp only [updH] at eh
  rw [← eh] at r2
  exact hK B _ w' r2
theorem wpOps_part {ops : Array Oper} {Q : Exit → Act → World → Prop} {K : St → List Rec → Prop} {rest : List Nat}
    (hK : ∀ S rs, K S rs → ∀ B a w, Rel E nt B S.t S.h a w → wpOps P ops Q rest a w) :
    ∀ (l : List Oper) (i : Nat) (S : St) (rs : List Rec) (B : Blk) (a : Act) (w : World), (∀ j, j < l.length → ops[i + j]? = l[j]?) → AWops P E nt ops l S rs K → Rel E nt B S.t S.h a w → wpOps P ops Q (List.range' i l.length ++ rest) a w
  | [], i, S, rs, B, a, w, _, h, r => hK S rs h B a w r
  | op :: l, i, S, rs, B, a, w, hl, h, r => by
    have ho : ops[i]? = some op := by simpa using hl 0 (by simp)
    have h2 : ∀ j, j < l.length → ops[i + 1 + j]? = l[j]? := fun j hj => by
      have := hl (j + 1) (by simp; omega)
      rw [show i + (j + 1) = i + 1 + j by omega] at this
      simpa using this
    rw [List.length_cons, List.range'_succ, List.cons_append]
    simp only [wpOps, ho]
    obtain ⟨S1, ⟨es1, es2⟩, h⟩ := h
    rw [← es1, ← es2] at r
    have e1 := St.app_t S1 op.dst
    have e2 := St.app_h S1 op.dst
    rcases h with ⟨hw, rh, e, hok, hrest⟩ | ⟨hw, hd, hrest⟩
    · rw [if_pos (wanted_of r hw)]
      refine .inl (hok S1.t S1.h (fun _ _ => rfl) (fun _ _ => rfl) (fun _ _ => rfl) B a w r _ _ fun B' a' w' r' => ?_)
      rw [← e1, ← e2] at r'
      exact wpOps_part hK l (i + 1) _ _ B' a' w' h2 hrest r'
    · rw [if_neg (by rw [wanted_of r hw]; simp)]
      have r' := r.undef hd
      have e1' := e1 ⟨.tup [], []⟩
      have e2' := e2 ⟨.tup [], []⟩
      simp only [updH] at e2'
      rw [← e1', ← e2'] at r'
      exact wpOps_part hK l (i + 1) _ _ B _ w h2 hrest r'
end
section
variable {P : Program} {E : Env} {b nt : Nat} {o : Obj} {S : St} {Q : Exit → Obj → St → Prop}
/-- a region in the text's order, of which one operation writes the map -/
theorem AWM_regionCut {id n : Nat} {ops : Array Oper} (hn : n < ops.size) (h : AWops P (E.put b o) nt ops (ops.toList.take n) S [] (fun S1 _ => (opAt ops n).guard = none ∧ ∃ o' S2, LastOK P E b nt (opAt ops n) o S1 o' S2 ∧ AWops P (E.put b o') nt ops (ops.toList.drop (n + 1)) S2 [] (fun S3 _ => Q .normal o' S3))) :
    AWM P E b nt (.region id ops false) o S Q := fun B a w r => by
  refine wp_region ?_
  have hl : (ops.toList.take n).length = n := by rw [List.length_take]; simp; omega
  have hl2 : (ops.toList.drop (n + 1)).length = ops.size - (n + 1) := by simp
  have er : List.range ops.size = List.range' 0 (ops.toList.take n).length ++ (n :: (List.range' (n + 1) (ops.toList.drop (n + 1)).length ++ [])) := by
    rw [hl, hl2, List.append_nil, List.range_eq_range', ← List.range'_succ]
    rw [show ops.size - (n + 1) + 1 = ops.size - n by omega]
    have := List.range'_append (s := 0) (m := n) (n := ops.size - n) (step := 1)
    rw [Nat.zero_add, Nat.one_mul] at this
    rw [this]
    congr 1; omega
  rw [er]
  refine wpOps_part (E := E.put b o) (nt := nt) (fun S1 rs hK B1 a1 w1 r1 => ?_) _ 0 S [] B a w (fun j hj => ?_) h r
  · obtain ⟨hg, o', S2, hlast, hrest⟩ := hK
    have ho : ops[n]? = some (opAt ops n) := by simp [opAt, hn]
    simp only [wpOps, ho]
    rw [if_pos (by unfold Region.wanted; rw [hg])]
    refine .inl (hlast B1 a1 w1 r1 _ _ fun B2 a2 w2 r2 => ?_)
    refine wpOps_part (E := E.put b o') (nt := nt) (fun S3 rs hK B3 a3 w3 r3 => ?_) _ (n + 1) S2 [] B2 a2 w2 (fun j hj => ?_) hrest r2
    · exact ⟨o', B3, S3, r3, hK⟩
    · rw [List.getElem?_drop]; simp
  · rw [List.getElem?_take, if_pos (by omega)]; simp
theorem Env.put_same {E : Env} {b : Nat} {o : Obj} (h : E.w0.heap[b]? = some o) : E.put b o = E := by
  have : E.w0.heap.setIfInBounds b o = E.w0.heap := by
    apply Array.ext_getElem?
    intro k
    rw [Array.getElem?_setIfInBounds]
    by_cases c : b = k
    · subst c
      rw [if_pos rfl, h, if_pos (Array.getElem?_eq_some_iff.1 h).1]
    · rw [if_neg c]
  unfold Env.put
  rw [this]
/-- what a function computes that writes a map handed in, out of its code -/
theorem MFn_intro {f : FuncId} {fn : Func} {c : Code} {args : List AV} {r : AV} {rv : List ResultVar} {o' : Obj} (hf : P.funcs[f]? = some fn) (hb : fn.body = some c) (hnt : fn.ntmps = nt) (hrv : fn.results = rv.toArray) (hn : args.length ≤ nt) (ys : List AV) (hy : resA ys = r)
    (h : ∀ E, (∀ k, ¬ E.ent k) → b < E.w0.heap.size → AWM P E b nt c o ⟨bindsA 0 args, []⟩ (fun e oo S' => (e = .normal ∨ e = .ret) ∧ oo = o' ∧ ResL P S' rv ys)) : MFn P f b o args o' r := by
  have hrv' : fn.results.toList = rv := by rw [hrv]
  subst hnt
  subst hrv'
  clear hrv
  intro U w vs hbo hvs
  subst hy
  obtain ⟨hl, hg⟩ := Rdp_get hvs
  have hblt : b < w.heap.size := (Array.getElem?_eq_some_iff.1 hbo).1
  let E : Env := ⟨w, U, fun _ => none, fun _ _ => rfl, []⟩
  have hE : ∀ b, ¬ E.ent b := fun b ⟨g, k, h⟩ => by cases h
  have ep : E.put b o = E := Env.put_same hbo
  have eU : unst E B0 H0 = fun b o => b < w.heap.size ∧ U b o ∧ ¬ E.ent b := unst0 E
  have r0 : Rel E fn.ntmps B0 (St.t ⟨bindsA 0 args, []⟩) (St.h ⟨bindsA 0 args, []⟩) { tmps := vs.toArray ++ Array.replicate (fn.ntmps - vs.toArray.size) undef, defers := [] } w := by
    have eH : (St.h ⟨bindsA 0 args, []⟩) = H0 := by funext k; rfl
    rw [eH]
    refine ⟨by simp; omega, rfl, fun s x hs => ?_, fun g bx h => by simp [H0] at h, fun g _ => rfl, fun g g' b h => by simp [H0, live] at h, ⟨rfl, rfl, rfl, Nat.le_refl _, fun k _ _ => rfl, Evo.refl _ _⟩, fun _ _ => rfl⟩
    have hs' : look s (bindsA 0 args) = some x := hs
    rw [bindsA_look] at hs'
    simp only [Nat.zero_le, if_true, Nat.sub_zero] at hs'
    obtain ⟨v, h1, c', h2, h3⟩ := hg s x hs'
    have hsl : s < vs.length := (List.getElem?_eq_some_iff.1 h1).1
    refine ⟨v, ?_, ?_⟩
    · rw [Array.getElem?_append_left (by simpa using hsl)]
      simpa using h1
    · rw [eU]
      exact Rdv_sub (fun b o h => h.2.1) (by rw [Rdv_not (Rd_notup h2)]; exact ⟨c', h2, h3⟩)
  rw [← ep] at r0
  refine calls_of_wp hf hb (wp_mono (h E hE hblt B0 _ w r0) ?_)
  rintro e a' w' ⟨oo, B', S', r', he, rfl, hres⟩
  obtain ⟨us, k1, k2, k3⟩ := resL_run r' _ _ hres
  have hob := put_block hblt hE r'
  have hx : ExtB b oo w w' := ⟨r'.left.os, r'.left.tape, r'.left.output, by have := r'.left.size; rw [Env.put_size] at this; exact this, fun k hk hkb => by
    have := r'.left.block k (by rw [Env.put_size]; exact hk) (hE k)
    rw [this]
    simp only [Env.put, Array.getElem?_setIfInBounds, if_neg (fun e : b = k => hkb e.symm)]
    rfl, hob⟩
  have eu : ∀ q k, (q < w.heap.size ∧ U q k) → unst (E.put b oo) B' S'.h q k := fun q k h => by rw [unst_put]; exact .inl ⟨h.1, h.2, hE q⟩
  have hfin : ∃ v, (results fn a'.tmps).run P w' = .ok v w' ∧ ∃ v', Ending.returned v = .returned v' ∧ Rdv (fun b o => b < w.heap.size ∧ U b o) w' B0 H0 (resA ys) v' ∧ ExtB b oo w w' := by
    have hm := mapM_arr _ _ _ _ _ k1
    rw [Array.toArray_toList] at hm
    rw [results_eq, Sem.run_bind, hm]
    obtain ⟨m1, m2⟩ := Rdp_get k3
    by_cases h1 : us.length = 1
    · obtain ⟨u, rfl⟩ := List.length_eq_one_iff.1 h1
      obtain ⟨y, rfl⟩ := List.length_eq_one_iff.1 (m1.trans h1)
      refine ⟨u, by simp, u, rfl, ?_, hx⟩
      obtain ⟨v, h3, c', h4, h5⟩ := m2 0 y rfl
      simp at h3
      subst h3
      show Rdv (fun b o => b < w.heap.size ∧ U b o) w' B0 H0 y u
      exact Rdv_sub eu (by rw [Rdv_not (Rd_notup h4)]; exact ⟨c', h4, h5⟩)
    · refine ⟨.tuple us.toArray, by simp [h1], _, rfl, ?_, hx⟩
      have hr : resA ys = .tup ys := by
        match ys, m1 with
        | [], _ => rfl
        | [y], m1 => exact absurd m1.symm h1
        | y :: z :: l, _ => rfl
      rw [hr, Rdv_tup]
      have := Rdv_sub eu (w := w') (B := B0) (H := H0) (x := .tup ys) (v := .tuple us.toArray) (by rw [Rdv_tup]; exact ⟨us, rfl, k3⟩)
      rw [Rdv_tup] at this
      exact this
  obtain ⟨v, h1, h2⟩ := hfin
  rcases he with rfl | rfl
  · exact ⟨r'.df, v, h1, h2⟩
  · exact ⟨r'.df, v, h1, h2⟩
end
end Go.Proofs.Ytphojngdgmnpaaa

namespace Go.Proofs.Ytphojngdgmnpaaa
open Go Go.RowKit
set_option linter.unusedVariables false
set_option linter.unusedSimpArgs false
set_option maxRecDepth 100000

def dOf (d : List Bool) (k : Nat) : Bool := d.getD k false
def mustOf (l : List Cal) : List Bool := (List.range 14).map fun i => decide (i < l.length) && decide (0 ≤ (atC l i).to)
def inn (o : List Nat) : List Bool := (List.range 14).map fun k => decide (k ∈ o)
def ovr (l : List Cal) (d : List Bool) : Bool := decide (List.zipWith (· && ·) d (mustOf l) = mustOf l)
abbrev Rs := Option (List Nat) × List Ky
def fmL (l : List Cal) (R : List Bool → List Ent → List Ky → Rs) (d : List Bool) (m : List Ent) : List Nat → List Ky → Rs
  | [], T => (none, T)
  | i :: is, T =>
    if dOf d i || !rdy l i (dOf d) then fmL l R d m is T
    else if (doC m (atC l i)).2 then
      match R (d.set i true) (doC m (atC l i)).1 T with
      | (some s, T') => (some (i :: s), T')
      | (none, T') => fmL l R d m is T'
    else fmL l R d m is T
def fmB (l : List Cal) (R : List Bool → List Ent → List Ky → Rs) (d : List Bool) (m : List Ent) (T : List Ky) : Rs :=
  if ovr l d then (some [], T) else if (d, m) ∈ T then (none, T) else fmL l R d m (List.range l.length) (T ++ [(d, m)])
def fm (l : List Cal) : Nat → List Bool → List Ent → List Ky → Rs
  | 0 => fmB l fun _ _ T => (none, T)
  | f + 1 => fmB l (fm l f)
def natA (k : Nat) : AV := intA (k : Nat)
def numsA (o : List Nat) : AV := .sl none 1 (o.map natA)
/-- the order found, behind the one that was there -/
def ordO (o : List Nat) (r : Option (List Nat)) : List Nat := match r with | some s => o ++ s | none => []
def searchA (l : List Cal) (b : Nat) : AV := .ref (.agg 16 [calsA l, .arr 14 1 ((mustOf l).map boolA), .v (.map (some b))])
@[simp] theorem inn_len (o : List Nat) : (inn o).length = 14 := by simp [inn]
@[simp] theorem must_len (l : List Cal) : (mustOf l).length = 14 := by simp [mustOf]
attribute [local irreducible] OpOK AWops AW CondB Go2 AFn thenA inBlockA noGotoA orderOk wantedA
set_option maxRecDepth 100000 in
set_option maxHeartbeats 4000000 in
theorem a_from1 (d : List Bool) (hd : d.length = 14) (n : AV) (e : AV) (k : Nat) (hk : k < 14) : AFn Try.prog 45 [intA (k : Nat), .ref (.agg 379 [.arr 14 1 (d.map boolA), n, e])] (boolA (dOf d k)) := by
  have he : (d.map boolA)[k]? = some (boolA (dOf d k)) := by
    unfold dOf
    rw [List.getElem?_map, List.getD_eq_getElem?_getD, List.getElem?_eq_getElem (by omega)]; rfl
  refine AFn_intro Try.func45 rfl Try.ntmps45 rfl (by simp) [_] rfl fun E hE => ?_
  refine wW ?_
  (apply Wv; (focus (exact ok_idx_refarr tabT rfl rfl rfl rfl (by omega) (by omega) (by rw [Int.toNat_natCast]; exact he))); (focus (first | exact want_n | exact want_g rfl (by with_reducible rfl))))
  refine wW ?_
  exact fin ⟨res_of rfl rfl rfl, trivial⟩
end Go.Proofs.Ytphojngdgmnpaaa

namespace Go.Proofs.Ytphojngdgmnpaaa
open Go Go.RowKit
set_option linter.unusedVariables false
set_option linter.unusedSimpArgs false
set_option maxRecDepth 100000

section
variable {P : Program} {E : Env} {nt : Nat} {ops : Array Oper} {T : Nat → Option AV} {H : Hp} {d : Option Nat} {ty : TypeId} {pos : String} {af : Array Edge} {gd : Option (Nat × Bool)}
def isAggV : Value → Bool
  | .agg _ => true
  | _ => false
end
section
variable {E : Env} {nt : Nat} {ops : Array Oper} {T : Nat → Option AV} {H : Hp} {d : Option Nat} {ty : TypeId} {pos : String} {af : Array Edge} {gd : Option (Nat × Bool)}
noncomputable def isStructB (t : TypeId) : Bool := match Try.prog.underlying t with
  | some (.struct _) => true
  | _ => false
/-- a method by name: the function that stands for it -/
def MCall (t : TypeId) (name : String) (args : List AV) (r : AV) : Prop := ∃ f fn F, Try.prog.funcs[f]? = some fn ∧ fn.body.isSome = true ∧ (fn.name == "runtime.NumGoroutine") = false ∧ Try.prog.underlying t = some (.struct F) ∧ (Try.prog.info? t).bind (fun i => (i.methods.find? (·.name == name)).map fun m => (m.path.toList.length, m.func)) = some (0, some (f, false)) ∧ AFn Try.prog f args r
end
end Go.Proofs.Ytphojngdgmnpaaa

namespace Go.Proofs.Ytphojngdgmnpaaa
open Go Go.RowKit
set_option linter.unusedVariables false
set_option linter.unusedSimpArgs false
set_option maxRecDepth 100000

theorem run_part_of {P : Program} {t : TypeId} {agg : Bool} {n : Nat} (ht : TyOf P t agg n) (w : World) (c1 c2 c3 : List Value) (hn : c2.length = n) (h1 : agg = false → n = 1) :
    (part t (c1 ++ c2 ++ c3).toArray c1.length).run P w = .ok (if agg then .agg c2.toArray else c2.headD undef) w := by
  have hz := run_sizeOf_of ht w
  obtain ⟨d, hu, hd, hi⟩ := ht
  have hagg : (isAgg t).run P w = .ok agg w := by
    unfold isAgg
    rw [Sem.run_bind, run_underlying hu w]
    subst hd
    cases d <;> rfl
  unfold part
  rw [Sem.run_bind, hagg, Result.andThen_ok]
  cases agg
  · obtain rfl := h1 rfl
    obtain ⟨v, rfl⟩ : ∃ v, c2 = [v] := by
      match c2, hn with
      | [v], _ => exact ⟨v, rfl⟩
    simp
  · have e : (c1 ++ c2 ++ c3).toArray.extract c1.length (c1.length + n) = c2.toArray := by
      apply Array.ext'
      simp [List.extract_eq_take_drop, List.drop_append, List.take_append, ← hn]
    simp only [if_true, Sem.run_bind, hz, Result.andThen_ok, e]
    rfl
section
variable {P : Program} {E : Env} {nt : Nat} {ops : Array Oper} {T : Nat → Option AV} {H : Hp} {d : Option Nat} {ty : TypeId} {pos : String} {af : Array Edge} {gd : Option (Nat × Bool)} (tb : Tab P)
theorem ok_idxv {x ix : Operand} {t e : TypeId} {tn len es : Nat} {ea : Bool} {m : Nat} {xs : List AV} {k : IntKind} {i : Int} {y : AV} (hd : dOk nt d = true) (hs : tb.ti t = some (.arr tn len es ea e)) (hx : evalO T x = some (.arr m es xs)) (hi : evalO T ix = some (.v (.int k i)))
    (h0 : 0 ≤ i) (hl : i < (len : Int)) (hy : xs[i.toNat]? = some y) (hg : ea = isAggA y) :
    OpOK P E nt ops ⟨d, .index t x ix, ty, pos, af, gd⟩ T H [] ⟨y, []⟩ :=
  ok_val hd fun B T' H' a w r ht hh => by
    have h1 := r.eval ((ht x (by simp [Op.operands])).trans hx)
    have hj := r.evalv ((ht ix (by simp [Op.operands])).trans hi)
    rw [Rdv_not (by simp)] at h1
    obtain ⟨c, h2, h3⟩ := h1
    simp only [Rd] at h2
    obtain ⟨h4, h5⟩ := h2
    obtain ⟨c1, c2, c3, rfl, m1, mn, m2, _⟩ := Rdu_at h5 hy
    obtain ⟨_, hu, he⟩ := tb.ok t _ hs
    have hz := run_sizeOf_of he w
    subst hg
    have hes : es = sizeA y := by rw [← mn]; exact Rd_len m2
    have hp := run_part_of he w c1 c2 c3 mn (by intro h; rw [hes]; exact size1 h)
    rw [pack_if m2] at hp
    rw [m1] at hp
    refine ⟨pack y c2, ?_, by rw [Rdv_not (Rd_notup m2)]; exact ⟨c2, Rd_free _ m2, rfl⟩⟩
    have h3' : a.eval x = .agg (c1 ++ c2 ++ c3).toArray := h3
    generalize (c1 ++ c2 ++ c3).toArray = cs at h3' hp
    simp [execOp, h3', hj, Instr.index, asIntOf, run_underlying hu, h0, hl, hz, hp]
end
section
variable {E : Env} {nt : Nat} {ops : Array Oper} {T : Nat → Option AV} {H : Hp} {d : Option Nat} {ty : TypeId} {pos : String} {af : Array Edge} {gd : Option (Nat × Bool)}
end
end Go.Proofs.Ytphojngdgmnpaaa

namespace Go.Proofs.Ytphojngdgmnpaaa
open Go Go.RowKit
set_option linter.unusedVariables false
set_option linter.unusedSimpArgs false
set_option maxRecDepth 100000
def barA (d : List Bool) : AV := .arr 14 1 (d.map boolA)
def stA (d : List Bool) (n : Int) (m : List Ent) : AV := .agg 379 [barA d, intA n, .arr 364 26 (m.map Ent.av)]
/-! ### zero values -/
theorem flat_rep (n : Nat) : flat Ent.arr (List.replicate n Ent.zero) = (List.replicate n [Value.int .i64 0, .int .u8 0, .int .u8 0, .int .u8 0, .int .u8 0, .int .u8 0, .int .u8 0, .int .u8 0, .int .u8 0, .int .i64 0, .int .u8 0, .int .u8 0, .int .u8 0, .int .u8 0, .int .u8 0, .int .u8 0, .int .u8 0, .int .u8 0, .int .u8 0, .int .u8 0, .int .u8 0, .int .u8 0, .int .u8 0, .int .u8 0, .int .u8 0, .int .u8 0]).flatten := by
  induction n with
  | zero => rfl
  | succ n ih =>
    have e : flat Ent.arr (List.replicate (n + 1) Ent.zero) = Ent.zero.arr.toList ++ flat Ent.arr (List.replicate n Ent.zero) := rfl
    rw [e, ih, Ent.zero_arr, List.replicate_succ, List.flatten_cons]
def zKey : Ky := (List.replicate 14 false, [])
theorem zKey_cells : cellsK zKey = List.replicate 14 (Value.bool false) ++ (.int .i64 0 :: (List.replicate 14 [Value.int .i64 0, .int .u8 0, .int .u8 0, .int .u8 0, .int .u8 0, .int .u8 0, .int .u8 0, .int .u8 0, .int .u8 0, .int .i64 0, .int .u8 0, .int .u8 0, .int .u8 0, .int .u8 0, .int .u8 0, .int .u8 0, .int .u8 0, .int .u8 0, .int .u8 0, .int .u8 0, .int .u8 0, .int .u8 0, .int .u8 0, .int .u8 0, .int .u8 0, .int .u8 0]).flatten) := by
  unfold cellsK zKey padE
  rw [List.nil_append, flat_rep]
  rfl
theorem state_info : (Try.prog.info? 100).map (fun i => (i.zero, i.size)) = some (some (keyV zKey), 379) := by
  unfold keyV
  rw [zKey_cells]
  kernel_rfl
theorem keyA_rd2 {k : Ky} {U : Uns} {w : World} {B : Blk} {H : Hp} (h : KyOk k) : Rd U w (keyA k) B H (cellsK k) := by
  have e1 := (rdu_cells (av := boolA) (cell := Value.bool) (fun _ => rfl) (fun _ => rfl) k.1 (U := U) (w := w) (B := B0) (H := H0)).2 rfl
  have e2 := (DT.rdu (D := dEnt) (padE k.2) (U := U) (w := w) (B := B0) (H := H0)).2 rfl
  unfold keyA
  simp only [Rd, Rds]
  refine ⟨cellsK_len h, k.1.map Value.bool, _, rfl, ⟨by rw [List.length_map, h.len], e1⟩, [.int .i64 (k.2.length : Nat)], flat Ent.arr (padE k.2), rfl, by unfold intA; simp [Rd, plain], _, [], (List.append_nil _).symm, ⟨?_, e2⟩, rfl⟩
  have := flat_len (arr := Ent.arr) (n := 26) Ent.arr_size (padE k.2)
  rw [padE_len h.few] at this
  exact this
theorem zKey_ok : KyOk zKey := ⟨rfl, Nat.zero_le _, fun e he => by cases he⟩
theorem zero_state : ZeroOk Try.prog 100 (stA (List.replicate 14 false) 0 (List.replicate 14 Ent.zero)) := zero_of state_info fun U w => by
  have : (keyV zKey).cells.toList = cellsK zKey := by unfold keyV; simp [Value.cells]
  rw [this]
  exact keyA_rd2 zKey_ok
theorem zero_b14 : ZeroOk Try.prog 64 (barA (List.replicate 14 false)) := zero_of (v := .agg (List.replicate 14 (Value.bool false)).toArray) (n := 14) (by kernel_rfl) fun U w => by
  have e1 := (rdu_cells (av := boolA) (cell := Value.bool) (fun _ => rfl) (fun _ => rfl) (List.replicate 14 false) (U := U) (w := w) (B := B0) (H := H0)).2 rfl
  unfold barA
  simp only [Rd]
  exact ⟨rfl, e1⟩
theorem zero_search : ZeroOk Try.prog 66 (.agg 16 [.v (.slice none 0 0), barA (List.replicate 14 false), .v (.map none)]) := zero_of (v := .agg ((Value.slice none 0 0 :: List.replicate 14 (Value.bool false)) ++ [Value.map none]).toArray) (n := 16) (by kernel_rfl) fun U w => by
  have e1 := (rdu_cells (av := boolA) (cell := Value.bool) (fun _ => rfl) (fun _ => rfl) (List.replicate 14 false) (U := U) (w := w) (B := B0) (H := H0)).2 rfl
  unfold barA
  simp only [Rd, Rds]
  exact ⟨rfl, [Value.slice none 0 0], _, rfl, ⟨rfl, rfl⟩, List.replicate 14 (Value.bool false), [Value.map none], rfl, ⟨rfl, e1⟩, [Value.map none], [], rfl, ⟨rfl, rfl⟩, rfl⟩
/-! ### equality of arrays of bools -/
def barV (d : List Bool) : Value := .agg (d.map Value.bool).toArray
theorem barA_rd {d : List Bool} {U : Uns} {w : World} {B : Blk} {H : Hp} {v : Value} (h : Rdv U w B H (barA d) v) : v = barV d := by
  unfold barA at h
  rw [Rdv_not (by simp)] at h
  obtain ⟨c, h1, rfl⟩ := h
  simp only [Rd] at h1
  have := (rdu_cells (av := boolA) (cell := Value.bool) (fun _ => rfl) (fun _ => rfl) d).1 h1.2
  subst this
  rfl
theorem okLits_b14 : okLits Try.prog (Try.prog.types.size + 1) 64 (List.replicate 14 .b) = true := by kernel_rfl
theorem keyType_b14 : Try.prog.keyType 64 = true := by kernel_rfl
theorem cellsOf_b14 : Try.prog.cellsOf 64 = 14 := by kernel_rfl
theorem bar_some {d : List Bool} (h : d.length = 14) : ∃ l, Go.keyOf Try.prog 64 (barV d) = some l := by
  have ht : TagsOk (List.replicate 14 .b) (d.map Value.bool) := TagsOk.all (by rw [List.length_map, h]) fun c hc => by
    rw [List.mem_map] at hc
    obtain ⟨x, _, rfl⟩ := hc
    exact (show tagOk .b (.bool x) from ⟨x, rfl⟩)
  obtain ⟨l, hl⟩ := keyLits_ok _ _ _ _ ht okLits_b14
  refine ⟨.string (keyBytes l), ?_⟩
  unfold Go.keyOf
  have hf : (barV d).formed Try.prog 64 = true := by
    unfold barV Value.formed
    simp only [Try.underlying64]
    simp [h, cellsOf_b14]
  have hc : (barV d).cells.toList = d.map Value.bool := by unfold barV; simp [Value.cells]
  simp only [Try.underlying64, keyType_b14, hf, hc, hl]
  simp
theorem b14_law : WideMaps.KeyLaw Try.prog 64 := deep_law_gate (by kernel_rfl) (of_decide_eq_true (by kernel_rfl)) (of_decide_eq_true (by kernel_rfl)) keyType_b14 (by kernel_rfl)
theorem bar_inj {d e : List Bool} (h : barV d = barV e) : d = e := by
  unfold barV at h
  injection h with h
  have h : d.map Value.bool = e.map Value.bool := by simpa using congrArg Array.toList h
  exact List.map_inj_right (fun x y h => by injection h) |>.1 h
theorem bar_eq {d e : List Bool} (h : d.length = 14) (h' : e.length = 14) (w : World) : (Op.equal 64 (barV d) (barV e)).run Try.prog w = .ok (decide (d = e)) w := by
  obtain ⟨l1, k1⟩ := bar_some h
  obtain ⟨l2, k2⟩ := bar_some h'
  obtain ⟨r, hr, hiff⟩ := run_equal_deep w (m := 5) (by omega) (by kernel_rfl) (by kernel_rfl) k1 k2
  rw [hr]
  congr 1
  rw [Bool.eq_iff_iff, hiff, decide_eq_true_eq]
  constructor
  · intro e1
    subst e1
    exact bar_inj (b14_law.inj k1 k2)
  · rintro rfl
    rw [k1] at k2; injection k2
section
variable {E : Env} {nt : Nat} {ops : Array Oper} {T : Nat → Option AV} {H : Hp} {d : Option Nat} {ty : TypeId} {pos : String} {af : Array Edge} {gd : Option (Nat × Bool)}
theorem o_nilcr {x : Operand} {y : AV} (hx : evalO T x = some (.ref y)) (hd : dOk nt d = true) : OpOK Try.prog E nt ops ⟨d, .nilCheck x, ty, pos, af, gd⟩ T H [] ⟨.ref y, []⟩ :=
  ok_val hd fun B T' H' a w r ht hh => by
    have h0 := r.eval ((ht x (by simp [Op.operands])).trans hx)
    have h := Rdv_one (by simp) h0 rfl
    simp only [Rd] at h
    obtain ⟨b, off, c, h2, _⟩ := h
    injection h2 with h2
    exact ⟨a.eval x, by simp [execOp, h2], h0⟩
theorem o_nilcp {x : Operand} {g off : Nat} {p : List Nat} (hx : evalO T x = some (.ptr g off p)) (hd : dOk nt d = true) : OpOK Try.prog E nt ops ⟨d, .nilCheck x, ty, pos, af, gd⟩ T H [] ⟨.ptr g off p, []⟩ :=
  ok_val hd fun B T' H' a w r ht hh => by
    have h0 := r.eval ((ht x (by simp [Op.operands])).trans hx)
    have h := Rdv_one (by simp) h0 rfl
    simp only [Rd] at h
    obtain ⟨_, b, _, h2⟩ := h
    injection h2 with h2
    exact ⟨a.eval x, by simp [execOp, h2], h0⟩
theorem o_idxpn {x ix : Operand} {t e : TypeId} {tn len es : Nat} {ea : Bool} {g off : Nat} {p : List Nat} {k : IntKind} {i : Nat} (hd : dOk nt d = true) (hs : tabT.ti t = some (.arr tn len es ea e)) (hx : evalO T x = some (.ptr g off p)) (hi : evalO T ix = some (.v (.int k (i : Nat)))) (hl : i < len) :
    OpOK Try.prog E nt ops ⟨d, .indexAddr t x ix, ty, pos, af, gd⟩ T H [] ⟨.ptr g (off + i * es) (p ++ [i]), []⟩ := ok_idx_ptr tabT hd hs hx hi (by omega) (by omega)
theorem o_idxvn {x ix : Operand} {t e : TypeId} {tn len es : Nat} {ea : Bool} {m : Nat} {xs : List AV} {k : IntKind} {i : Nat} {y : AV} (hd : dOk nt d = true) (hs : tabT.ti t = some (.arr tn len es ea e)) (hx : evalO T x = some (.arr m es xs)) (hi : evalO T ix = some (.v (.int k (i : Nat))))
    (hl : i < len) (hy : xs[i]? = some y) (hg : ea = isAggA y) : OpOK Try.prog E nt ops ⟨d, .index t x ix, ty, pos, af, gd⟩ T H [] ⟨y, []⟩ := ok_idxv tabT hd hs hx hi (by omega) (by omega) (by rw [Int.toNat_natCast]; exact hy) hg
theorem o_idxrn {x ix : Operand} {t e : TypeId} {tn len es : Nat} {ea : Bool} {m : Nat} {xs : List AV} {k : IntKind} {i : Nat} {y : AV} (hd : dOk nt d = true) (hs : tabT.ti t = some (.arr tn len es ea e)) (hx : evalO T x = some (.ref (.arr m es xs))) (hi : evalO T ix = some (.v (.int k (i : Nat))))
    (hl : i < len) (hy : xs[i]? = some y) : OpOK Try.prog E nt ops ⟨d, .indexAddr t x ix, ty, pos, af, gd⟩ T H [] ⟨.ref y, []⟩ := ok_idx_refarr tabT hd hs hx hi (by omega) (by omega) (by rw [Int.toNat_natCast]; exact hy)
theorem o_eqbar {t' : TypeId} {x y : Operand} {a b : List Bool} (hd : dOk nt d = true) (hx : evalO T x = some (barA a)) (hy : evalO T y = some (barA b)) (ha : a.length = 14) (hb : b.length = 14) : OpOK Try.prog E nt ops ⟨d, .binOp .eql 64 x y t', ty, pos, af, gd⟩ T H [] ⟨.v (.bool (decide (a = b))), []⟩ :=
  ok_val hd fun B T' H' A w r ht hh => ⟨.bool (decide (a = b)), by
    have h1 := barA_rd (r.eval ((ht x (by simp [Op.operands])).trans hx))
    have h2 := barA_rd (r.eval ((ht y (by simp [Op.operands])).trans hy))
    have hg : Try.prog.eqGuardType Try.prog.depth 64 = false := by kernel_rfl
    have he := bar_eq ha hb w
    have hb2 : (binOp .eql 64 (barV a) (barV b)).run Try.prog w = .ok (.bool (decide (a = b))) w := by
      have he' : (Op.equalIn 10000 64 (barV a) (barV b)).run Try.prog w = .ok (decide (a = b)) w := he
      unfold barV at he' ⊢
      rw [run_eql_struct, he']; rfl
    unfold barV at h1 h2 hb2
    simp only [execOp, h1, h2, Sem.run_bind]
    simp [eqGuard, hg, hb2], by rw [Rdv_v]; exact ⟨rfl, rfl⟩⟩
theorem o_cpents {x y : Operand} {t tx e : TypeId} {bytes : Nat} {ea : Bool} {g off cap : Nat} {tok : Option Nat} {d0 : AV} {n : AV} {ms : List Ent} (hd : dOk nt d = true) (hs : tabT.ti t = some (.sl e 26 bytes ea)) (hx : evalO T x = some (.seg g off 26 [2] 14 cap)) (hy : evalO T y = some (.sl tok 26 (ms.map Ent.av)))
    (hg : H g = some (.var (.agg 379 [d0, n, .arr 364 26 ((List.replicate 14 Ent.zero).map Ent.av)]))) (ho : off = sizeA d0 + (sizeA n + 0)) (hle : ms.length ≤ 14) :
    OpOK Try.prog E nt ops ⟨d, .call { callee := .builtin .copy, args := #[x, y], argTypes := #[t, tx] }, ty, pos, af, gd⟩ T H [g] ⟨.v (.int .i64 (ms.length : Nat)), [(g, .var (.agg 379 [d0, n, .arr 364 26 ((padE ms).map Ent.av)]))]⟩ := by
  have hmin : min (ms.map Ent.av).length 14 = ms.length := by rw [List.length_map]; omega
  have h := ok_copy tabT (E := E) (nt := nt) (ops := ops) (T := T) (H := H) (d := d) (ty := ty) (pos := pos) (af := af) (gd := gd) (x := x) (y := y) (t := t) (tx := tx) (g := g) (off := off) (len := 14) (cap := cap) (m := 364) (p := [2]) (z := .agg 379 [d0, n, .arr 364 26 ((List.replicate 14 Ent.zero).map Ent.av)]) (z' := .agg 379 [d0, n, .arr 364 26 ((padE ms).map Ent.av)]) (src := .sl tok 26 (ms.map Ent.av)) (xs := (List.replicate 14 Ent.zero).map Ent.av) (ys := ms.map Ent.av) hd hs hx hy srcn_sl hg rfl (by rw [ho]; rfl) (by simp) (by
    rw [hmin]
    have : (ms.map Ent.av).take ms.length ++ ((List.replicate 14 Ent.zero).map Ent.av).drop ms.length = (padE ms).map Ent.av := by
      unfold padE
      rw [List.take_of_length_le (by simp), List.map_append, ← List.map_drop, List.drop_replicate]
    rw [this]
    rfl)
  rw [hmin] at h
  exact h
/-- true laid into the array at a place -/
theorem o_stin {x y : Operand} {g off i : Nat} {dl : List Bool} {n e : AV} (hx : evalO T x = some (.ptr g off [0, i])) (hoff : off = i * 1) (hy : evalO T y = some (.v (.bool true))) (hg : H g = some (.var (.agg 379 [barA dl, n, e]))) (hi : i < dl.length) (hs : tabT.sa 4 = some (false, 1)) :
    OpOK Try.prog E nt ops ⟨none, .store 4 x y, ty, pos, af, gd⟩ T H [] ⟨.tup [], [(g, .var (.agg 379 [barA (dl.set i true), n, e]))]⟩ := by
  refine ok_store tabT (d := none) rfl hx hy hg (old := boolA dl[i]) ?_ ?_ ?_ hs rfl rfl
  · simp [subA, barA, hi]
  · simp [offA, barA, sumS, hi, hoff, boolA]
  · simp [setA, barA, hi, dataA, boolA, List.map_set]
theorem o_ldbar {x : Operand} {g off i : Nat} {dl : List Bool} (hd : dOk nt d = true) (hx : evalO T x = some (.ptr g off [i])) (hoff : off = i * 1) (hg : H g = some (.var (barA dl))) (hi : i < dl.length) (hs : tabT.sa 4 = some (false, 1)) :
    OpOK Try.prog E nt ops ⟨d, .load 4 x, ty, pos, af, gd⟩ T H [g] ⟨boolA (dOf dl i), []⟩ := by
  refine ok_load_ptr tabT hd hx hg rfl (z := boolA (dOf dl i)) ?_ ?_ hs
  · simp [subA, barA, hi, dOf]
  · simp [offA, barA, hi, hoff, boolA]
theorem o_stbar {x y : Operand} {g off i : Nat} {dl : List Bool} {v : Bool} (hx : evalO T x = some (.ptr g off [i])) (hoff : off = i * 1) (hy : evalO T y = some (.v (.bool v))) (hg : H g = some (.var (barA dl))) (hi : i < dl.length) (hs : tabT.sa 4 = some (false, 1)) :
    OpOK Try.prog E nt ops ⟨none, .store 4 x y, ty, pos, af, gd⟩ T H [] ⟨.tup [], [(g, .var (barA (dl.set i v)))]⟩ := by
  refine ok_store tabT (d := none) rfl hx hy hg (old := boolA dl[i]) ?_ ?_ ?_ hs rfl rfl
  · simp [subA, barA, hi]
  · simp [offA, barA, hi, hoff, boolA]
  · simp [setA, barA, hi, dataA, boolA, List.map_set]
end
end Go.Proofs.Ytphojngdgmnpaaa

namespace Go.Proofs.Ytphojngdgmnpaaa
open Go Go.RowKit
set_option linter.unusedVariables false
set_option linter.unusedSimpArgs false
set_option maxRecDepth 100000
set_option linter.unusedSectionVars false

section
variable {E : Env} {nt : Nat} {ops : Array Oper} {T : Nat → Option AV} {H : Hp} {d : Option Nat} {ty : TypeId} {pos : String} {af : Array Edge} {gd : Option (Nat × Bool)}
/-! ### rows of bools -/
theorem ob_idx {x ix : Operand} {t e : TypeId} {es bytes : Nat} {ea : Bool} {g len : Nat} {f : Bool → AV} {xs : List (Bool)} {k : IntKind} {n : Int} {i : Nat} (hd : dOk nt d = true) (hs : tabT.ti t = some (.sl e es bytes ea)) (hx : evalO T x = some (.own g es len .row)) (hg : H g = some (.own e es (xs.map f))) (hi : evalO T ix = some (.v (.int k n))) (hn : natOf n = some i)
    (hl : len = xs.length) (hlt : i < len) : OpOK Try.prog E nt ops ⟨d, .indexAddr t x ix, ty, pos, af, gd⟩ T H [g] ⟨.own g es len (.at (i * es) [i]), []⟩ := by
  subst hl
  exact oo_idx hd hs hx hg hi hn hlt
theorem ob_st {x y : Operand} {t e : TypeId} {g len i : Nat} {b : Bool} {f : Bool → AV} {xs : List (Bool)} (hx : evalO T x = some (.own g 1 len (.at (i * 1) [i]))) (hy : evalO T y = some (f b)) (hg : H g = some (.own e 1 (xs.map f))) (hl : len = xs.length) (hlt : i < xs.length) (hs : tabT.sa t = some (isAggA (f b), 1)) (h1 : ∀ a, sizeA (f a) = 1) (hdt : dataA (f b) = true) (hnt : notTup (f b) = true) :
    OpOK Try.prog E nt ops ⟨none, .store t x y, ty, pos, af, gd⟩ T H [g] ⟨.tup [], [(g, .own e 1 ((xs.set i b).map f))]⟩ := by
  subst hl
  exact oo_store hx hy hg (by omega) (old := f xs[i]) (by simp [subA, hlt]) (by simp [offA]) (by simp [setA, hlt, hdt, List.map_set]) (by rw [h1]; exact hs) (by rw [h1, h1]) hnt
/-- over n elements from a place on, others -/
def put4 {α : Type} (xs : List α) (off : Nat) (ys : List α) : List α := xs.take off ++ (ys ++ xs.drop (off + ys.length))
theorem ob_make {t e : TypeId} {es bytes : Nat} {ea : Bool} {x y : Operand} {k k' : IntKind} {n : Nat} {f : Bool → AV} {z : Bool} {g : Nat} {m m' : Int} (hd : dOk nt (some g) = true) (hs : tabT.ti t = some (.sl e (es + 1) bytes ea)) (hz : zeroT e = some (f z)) (hx : evalO T x = some (.v (.int k m))) (hy : evalO T y = some (.v (.int k' m'))) (hm : natOf m = some n) (hm' : natOf m' = some n) (hg : H g = none) (hb : bytes * n ≤ 140737488355328) (hn : n ≤ 9223372036854775807) :
    OpOK Try.prog E nt ops ⟨some g, .makeSlice t x y, ty, pos, af, gd⟩ T H [] ⟨.own g (es + 1) n .row, [(g, .own e (es + 1) ((List.replicate n z).map f))]⟩ := by
  have := natOf_eq hm; subst this
  have := natOf_eq hm'; subst this
  rw [List.map_replicate]
  exact ok_make_own hd hs hz hx hy hg hb hn
end
section
variable {P : Program} {E : Env} {nt : Nat} {ops : Array Oper} {l : List Oper} {T : List (Nat × AV)} {H : List (Nat × Bx)} {rs : List Rec} {K : St → List Rec → Prop} {op : Op} {ty : TypeId} {pos : String} {af : Array Edge} {gd : Option (Nat × Bool)} {d : Nat} {rh : List Nat}
/-- a call with boxes, the names of what it reads and turns spelled out -/
theorem WcN (rh' wr' : List Nat) {v : AV} {wr : List (Nat × Bx)} (hok : OpOK P E nt ops ⟨some d, op, ty, pos, af, gd⟩ (St.t ⟨T, H⟩) (St.h ⟨T, H⟩) rh ⟨v, wr⟩) (h1 : rh = rh') (h2 : wr.map (·.1) = wr') (hw : wantedA ops ⟨some d, op, ty, pos, af, gd⟩ (St.t ⟨T, H⟩) = some true)
    (h : AWops P E nt ops l ⟨(d, v) :: T, wr ++ H⟩ (rs ++ [⟨rh', wr'⟩]) K) : AWops P E nt ops (⟨some d, op, ty, pos, af, gd⟩ :: l) ⟨T, H⟩ rs K := by
  subst h1 h2
  exact Wc hok hw h
end
section
variable {P : Program} {E : Env} {nt : Nat} {ops : Array Oper} {T : Nat → Option AV} {H : Hp} {d : Option Nat} {ty : TypeId} {pos : String} {af : Array Edge} {gd : Option (Nat × Bool)}
end
section
variable {E : Env} {nt : Nat} {ops : Array Oper} {T : Nat → Option AV} {H : Hp} {d : Option Nat} {ty : TypeId} {pos : String} {af : Array Edge} {gd : Option (Nat × Bool)}
end
section
variable {P : Program} {E : Env} {nt : Nat} {ops : Array Oper} {l : List Oper} {T : List (Nat × AV)} {H : List (Nat × Bx)} {rs : List Rec} {K : St → List Rec → Prop} {op : Op} {ty : TypeId} {pos : String} {af : Array Edge} {gd : Option (Nat × Bool)} {d : Nat} {rh : List Nat}
theorem WvN (rh' : List Nat) {v : AV} (hok : OpOK P E nt ops ⟨some d, op, ty, pos, af, gd⟩ (St.t ⟨T, H⟩) (St.h ⟨T, H⟩) rh ⟨v, []⟩) (h1 : rh = rh') (hw : wantedA ops ⟨some d, op, ty, pos, af, gd⟩ (St.t ⟨T, H⟩) = some true)
    (h : AWops P E nt ops l ⟨(d, v) :: T, H⟩ (rs ++ [⟨rh', []⟩]) K) : AWops P E nt ops (⟨some d, op, ty, pos, af, gd⟩ :: l) ⟨T, H⟩ rs K := by
  subst h1
  exact Wv hok hw h
end
section
variable {E : Env} {nt : Nat} {ops : Array Oper} {T : Nat → Option AV} {H : Hp} {d : Option Nat} {ty : TypeId} {pos : String} {af : Array Edge} {gd : Option (Nat × Bool)}
end
/-! ### ends -/
section
variable {P : Program} {S : St} {H2 : List (Nat × Bx)}
theorem finc {rv : List ResultVar} {ys : List AV} (h : LeaveOk S.H H2 ∧ ResLC P S H2 rv ys) : (Exit.ret = .normal ∨ Exit.ret = .ret) ∧ LeaveOk S.H H2 ∧ ResLC P S H2 rv ys := ⟨.inr rfl, h⟩
theorem rc_of {t : Nat} {x : AV} (hx : S.t t = some x) (hn : notTup x = true) (hb : (namesA x).all (fun g => (look g H2).isSome) = true) : Res1C P S H2 (.tmp t) x := ⟨x, hx, notTup_ne hn, .inl ⟨rfl, hb⟩⟩
theorem rc_sl {t n : Nat} {tok : Option Nat} {xs : List AV} (hx : S.t t = some (.sl tok n xs)) : Res1C P S H2 (.tmp t) (.sl none n xs) := ⟨_, hx, notTup_ne rfl, .inr Wk.tok⟩
theorem rc_nil {t n : Nat} (hx : S.t t = some (.v (.slice none 0 0))) : Res1C P S H2 (.tmp t) (.sl none n []) := ⟨_, hx, notTup_ne rfl, .inr Wk.nil⟩
end
end Go.Proofs.Ytphojngdgmnpaaa

namespace Go.Proofs.Ytphojngdgmnpaaa
open Go Go.RowKit
set_option linter.unusedVariables false
set_option linter.unusedSimpArgs false
set_option maxRecDepth 100000
set_option linter.unusedSectionVars false
section
variable {P : Program} {E : Env} {b nt : Nat} {o : Obj} {S : St} {Q : Exit → Obj → St → Prop}
theorem AWM_loopI {c : Code} {ι : Type} (I : ι → Obj × St) (J : ι → Prop) (μ : ι → Nat) (i0 : ι) (h0 : J i0) (ho : o = (I i0).1) (hs : Go2 (E.put b o) nt S (I i0).2)
    (round : ∀ i, J i → AWM P E b nt c (I i).1 (I i).2 (thenM (fun o' S' => ∃ j, J j ∧ μ j < μ i ∧ o' = (I j).1 ∧ Go2 (E.put b o') nt S' (I j).2) Q)) : AWM P E b nt (.loop c) o S Q := by
  intro B a w r
  obtain ⟨B0, r0⟩ := hs B a w r
  rw [ho] at r0
  have key : ∀ n i, μ i = n → J i → ∀ B a w, Rel (E.put b (I i).1) nt B (I i).2.t (I i).2.h a w → ∀ (fr : Frame) (k : List Item) (cs : List Frame),
      ∃ e a' w', (∃ o' B' S', Rel (E.put b o') nt B' S'.t S'.h a' w' ∧ Q e o' S') ∧ Arrives P (lone (fr.at a (.code c :: .inLoop c :: k)) cs w) fr k cs e a' w' := by
    intro n
    induction n using Nat.strongRecOn with
    | _ n ih =>
      intro i hn hJ B a w r fr k cs
      obtain ⟨e, a₁, w₁, ⟨o₁, B₁, S₁, r₁, hq⟩, harr⟩ := round i hJ B a w r fr (.inLoop c :: k) cs
      cases e with
      | normal =>
        obtain ⟨j, hJj, hlt, ho, hsub⟩ := hq
        obtain ⟨B₂, r2⟩ := hsub _ _ _ r₁
        rw [ho] at r2
        obtain ⟨e₂, a₂, w₂, hq₂, harr₂⟩ := ih (μ j) (hn ▸ hlt) j rfl hJj B₂ a₁ w₁ r2 fr k cs
        exact ⟨e₂, a₂, w₂, hq₂, .of_steps (Steps.trans harr (.one step_inLoop)) harr₂⟩
      | exit id => exact ⟨_, a₁, w₁, ⟨o₁, B₁, S₁, r₁, hq⟩, .pass (x := .inLoop c) rfl (fun _ _ => .inl (by simp)) harr⟩
      | goto l => exact ⟨_, a₁, w₁, ⟨o₁, B₁, S₁, r₁, hq⟩, .pass (x := .inLoop c) rfl (fun _ _ => .inl (by simp)) harr⟩
      | ret => exact ⟨_, a₁, w₁, ⟨o₁, B₁, S₁, r₁, hq⟩, .pass (x := .inLoop c) rfl (fun _ _ => .inl (by simp)) harr⟩
      | panic ch => exact ⟨_, a₁, w₁, ⟨o₁, B₁, S₁, r₁, hq⟩, .pass (x := .inLoop c) rfl (fun _ _ => .inl (by simp)) harr⟩
      | outgrown => exact hq.elim
  intro fr k cs
  obtain ⟨e, a', w', hq, harr⟩ := key _ i0 rfl h0 B0 a w r0 fr k cs
  exact ⟨e, a', w', hq, .of_steps (.one step_loop) harr⟩
end
theorem doC_lf {m : List Ent} (h : Lf m) (c : Cal) : Lf (doC m c).1 := by
  unfold doC
  split
  · exact mdDo_lf h _
  · split
    · exact h
    · split
      · exact h
      · exact mdDo_lf h _
theorem doC_len (m : List Ent) (c : Cal) : (doC m c).1.length ≤ m.length + 1 := by
  unfold doC
  split
  · exact mdDo_len _ _
  · split
    · show m.length ≤ _; omega
    · split
      · show m.length ≤ _; omega
      · exact mdDo_len _ _
section
variable {P : Program} {E : Env} {b nt : Nat} {o : Obj} {S : St} {Q : Exit → Obj → St → Prop}
theorem AWM_ret (h : Q .ret o S) : AWM P E b nt .ret o S Q := AWM_of (AW_ret h)
end
/-- an order: nil as long as there is none -/
def ordA (o : List Nat) : AV := match o with | [] => .v (.slice none 0 0) | k :: o => numsA (k :: o)
theorem ordN (o : List Nat) (f : Nat → Bool) : (namesA (ordA o)).all f = true := by cases o <;> rfl
theorem ordA_re (o : List Nat) (U : Uns) (w : World) (B : Blk) (H : Hp) (v : Value) (h : Rdv U w B H (ordA o) v) : Rdv U w B H (numsA o) v := by
  cases o with
  | cons k o => exact h
  | nil =>
    have h : Rdv U w B H (.v (.slice none 0 0)) v := h
    rw [Rdv_v] at h
    unfold numsA
    rw [Rdv_not (by simp), h.2]
    refine ⟨[_], ?_, rfl⟩
    simp only [List.map_nil, Rd]
    exact ⟨none, 0, rfl, Nat.le_refl _, by unfold maxLen; omega, fun h => absurd h (by simp), fun t ht => by cases ht⟩
section
variable {E : Env} {nt : Nat} {ops : Array Oper} {T : Nat → Option AV} {H : Hp} {d : Option Nat} {ty : TypeId} {pos : String} {af : Array Edge} {gd : Option (Nat × Bool)}
theorem o_lenre {x : Operand} {t e : TypeId} {es bytes : Nat} {ea : Bool} {y : AV} {tok : Option Nat} {n : Nat} {xs : List AV} (hs : tabT.ti t = some (.sl e es bytes ea)) (hd : dOk nt d = true) (hx : evalO T x = some y) (h : ∀ U w B H v, Rdv U w B H y v → Rdv U w B H (.sl tok n xs) v) :
    OpOK Try.prog E nt ops ⟨d, .call { callee := .builtin .len, args := #[x], argTypes := #[t] }, ty, pos, af, gd⟩ T H [] ⟨.v (.int .i64 xs.length), []⟩ :=
  ok_val hd fun B T' H' a w r ht hh => ⟨.int .i64 xs.length, by
    have h := Rdv_one (by simp) (h _ _ _ _ _ (r.eval ((ht x (by simp [Op.operands, Call.operands])).trans hx))) rfl
    simp only [Rd] at h
    obtain ⟨A, cap, h1, _⟩ := h
    injection h1 with h1
    simp [execOp, resolve, invoke, builtin, h1, Builtin.len_, run_underlying (tabT.ok t _ hs).2.1, goInt], by rw [Rdv_v]; exact ⟨rfl, rfl⟩⟩
theorem o_lenord {x : Operand} {t e : TypeId} {es bytes : Nat} {ea : Bool} {o : List Nat} (hs : tabT.ti t = some (.sl e es bytes ea)) (hd : dOk nt d = true) (hx : evalO T x = some (ordA o)) :
    OpOK Try.prog E nt ops ⟨d, .call { callee := .builtin .len, args := #[x], argTypes := #[t] }, ty, pos, af, gd⟩ T H [] ⟨.v (.int .i64 o.length), []⟩ := by
  have := o_lenre (E := E) (ops := ops) (H := H) (ty := ty) (pos := pos) (af := af) (gd := gd) (tok := none) (n := 1) (xs := o.map natA) hs hd hx (ordA_re o)
  rwa [List.length_map] at this
end
set_option maxRecDepth 100000 in
set_option maxHeartbeats 4000000 in
theorem clonenil_raw (w : World) : Calls Try.prog 46 #[.slice none 0 0] w (fun e w' => e = .returned (.slice none 0 0) ∧ Ext w w') := by
  have q := eqnil_ints
  go_enter Try.func46, Try.ntmps46
  go_wp2
  go_ret
  exact ⟨rfl, (by repeat (first | exact Ext.refl _ | assumption | refine Ext.drew ?_ | refine Ext.drewN ?_ _ | refine Ext.alloc ?_ _ | refine Ext.trans ?_ (by assumption)))⟩
theorem a_clonenil : AFn Try.prog 46 [.v (.slice none 0 0)] (.v (.slice none 0 0)) := by
  intro U w vs hr
  simp only [Rdp] at hr
  obtain ⟨c, vs', rfl, h1, rfl⟩ := hr
  simp only [Rd] at h1
  obtain ⟨_, rfl⟩ := h1
  refine (clonenil_raw w).mono ?_
  rintro e w' ⟨rfl, k⟩
  exact ⟨_, rfl, by rw [Rdv_v]; exact ⟨rfl, rfl⟩, k⟩
attribute [local irreducible] OpOK AWops AW CondB Go2 AFn thenA inBlockA noGotoA orderOk wantedA
set_option maxRecDepth 100000 in
set_option maxHeartbeats 4000000 in
theorem c_clone (l : List Nat) (h0 : 0 < l.length) (hl : l.length ≤ 1000000000) : CFn Try.prog 46 [numsA l] [] (.sl (some 5) 1 (l.map natA)) [(5, .tail 3 1 l.length)] := by
  refine CFn_intro Try.func46 rfl Try.ntmps46 rfl (by simp) [_] rfl fun E hE => ?_; have hnt : (!true) = false := rfl; have hnf : (!false) = true := rfl
  refine wW ?_
  (apply Wv; (focus (exact ok_eqnil rfl rfl rfl rfl (by rw [List.length_map]; exact h0))); (focus (first | exact want_n | exact want_g rfl (by with_reducible rfl))))
  refine wW ?_
  exact finc ⟨⟨(by repeat' (first | exact True.intro | rfl | apply And.intro)), rfl⟩, rc_of rfl rfl rfl, trivial⟩
end Go.Proofs.Ytphojngdgmnpaaa

namespace Go.Proofs.Ytphojngdgmnpaaa
open Go Go.RowKit
set_option linter.unusedVariables false
set_option linter.unusedSimpArgs false
set_option maxRecDepth 100000
theorem wSS {Q R : Prop} (k : R) (h : Hid R → Q := by intro kHid; (repeat (first | (first | refine Wend _ ?_ | refine AW_seq ?_ | refine AW_reg ?_ | refine AW_drw mixed ?_ | refine AW_block ?_ | refine AW_scope ?_ | refine thenA_n ?_ | refine blockA_n ?_ | refine blockA_h ?_ | refine scopeA_n ?_ | refine thenA_r ?_ | refine blockA_r ?_ | refine scopeA_r ?_ | refine thenA_e ?_ | refine scopeA_e ?_ | refine blockA_e rfl ?_ | refine AW_exit ?_ | refine AW_ret ?_ | refine AW_skip ?_ | refine AW_c rfl ?_ | with_reducible refine cb_t ?_ | with_reducible refine cb_f ?_ | with_reducible refine cb_yes (by first | assumption | omega) ?_ | with_reducible refine cb_no (by first | assumption | omega) ?_ | refine And.intro (by decide +kernel) ?_) | (first | (apply Wv; (focus (first | exact step_ok rfl rfl | exact o_idx rfl rfl rfl rfl (by first | assumption | omega | decide) | exact o_idx3 rfl rfl rfl rfl (by first | assumption | omega | decide) | exact o_idx2 rfl rfl rfl rfl rfl (by first | assumption | omega | decide) | exact o_idxr rfl rfl rfl rfl rfl rfl | exact o_lenm rfl rfl rfl | exact o_len rfl rfl rfl | exact o_len0 rfl rfl rfl | exact o_lens rfl rfl rfl | exact o_lent rfl rfl | exact o_add1 rfl rfl rfl (by omega) | exact o_addn rfl rfl rfl (by omega) | exact o_add rfl rfl rfl (by omega) | exact o_sub1 rfl rfl rfl (by omega) | exact o_sub rfl rfl rfl (by omega) | exact o_mul rfl rfl rfl (by omega) | exact o_rem rfl rfl rfl (by omega) | exact ok_rem rfl rfl rfl (by decide) rfl | exact o_eqKey rfl rfl rfl | exact o_neKey rfl rfl rfl | exact o_eqVl rfl rfl rfl | exact o_neVl rfl rfl rfl | exact o_eqEnt rfl rfl rfl | exact o_neEnt rfl rfl rfl | exact o_eqMsg rfl rfl rfl | exact o_neMsg rfl rfl rfl | exact o_acall rfl rfl rfl rfl (by assumption) | exact o_minn rfl rfl rfl | exact o_cutl rfl rfl rfl rfl (by omega) | exact o_cuth rfl rfl rfl rfl (by omega) | exact o_cutl3 rfl rfl rfl rfl (by omega) | exact o_cuth3 rfl rfl rfl rfl (by omega) | exact o_cutl2 rfl rfl rfl rfl rfl (by omega) | exact o_cuth2 rfl rfl rfl rfl rfl (by omega) | exact o_cutlh2 rfl rfl rfl rfl rfl rfl rfl (by omega) (by omega) | exact o_bld zero_Opn rfl rfl rfl rfl rfl rfl rfl | exact o_bld zero_Cal rfl rfl rfl rfl rfl rfl rfl | exact o_bld zero_state rfl rfl rfl rfl rfl rfl rfl | exact o_bld zero_search rfl rfl rfl rfl rfl rfl rfl | exact o_nilcr rfl rfl | exact o_nilcp rfl rfl | exact o_eqbar rfl rfl rfl (by simp) (by simp) | exact o_ldbar rfl rfl (by simp) rfl (by first | omega | (simp; omega)) rfl | exact o_idxpn rfl rfl rfl rfl (by omega) | exact o_idxvn rfl rfl rfl rfl (by omega) (by assumption) rfl | exact o_idxrn rfl rfl rfl rfl (by omega) (by assumption) | exact o_cutarr rfl rfl rfl rfl | exact o_mkfn rfl rfl rfl | exact o_callv rfl rfl rfl rfl rfl rfl (by assumption) | exact o_bld zero_Ans rfl rfl rfl rfl rfl rfl rfl | exact o_eqAns rfl rfl rfl | exact o_neAns rfl rfl rfl | exact e_bld rfl rfl rfl | exact e_bldk rfl rfl | exact z_bld0 rfl rfl rfl rfl rfl | exact z_bld rfl rfl rfl rfl rfl rfl rfl | exact o_addu rfl rfl rfl | exact z_blda rfl rfl rfl rfl rfl rfl rfl rfl rfl | exact o_idxa rfl rfl rfl rfl rfl rfl | exact o_idxra rfl rfl rfl rfl rfl rfl rfl | exact o_quo2 rfl rfl rfl (by omega) | exact o_quo rfl rfl rfl (by omega))); (focus (first | exact want_n | exact want_g rfl (by with_reducible rfl)))) | (apply Wb; (focus (first | exact o_box rfl rfl rfl rfl | exact o_app rfl rfl rfl rfl rfl (by first | exact o_many rfl | exact o_one _ _ rfl) (by first | omega | (simp; omega) | simp) (by first | omega | (simp; omega) | simp) | exact o_appn rfl rfl rfl rfl rfl (by first | exact o_many rfl | exact o_one _ _ rfl) (by first | omega | (simp; omega) | simp) (by first | omega | (simp; omega) | simp) | exact o_app1 rfl rfl rfl rfl rfl (by first | exact o_many rfl | exact o_one _ _ rfl) (by exact rfl) (by first | omega | (simp; omega) | simp) (by first | omega | (simp; omega) | simp) | exact o_app0 rfl rfl rfl rfl rfl (by first | exact o_many rfl | exact o_one _ _ rfl) (by first | omega | (simp; omega) | simp) (by first | omega | (simp; omega) | simp) | exact o_bsl0 rfl rfl rfl | exact z_bsll rfl rfl rfl rfl rfl rfl rfl rfl rfl | exact z_alloc rfl rfl rfl | exact o_alloc zero_Opn rfl rfl | exact o_alloc zero_Cal rfl rfl | exact o_alloc zero_state rfl rfl | exact o_alloc zero_b14 rfl rfl | exact o_cpents rfl rfl rfl rfl rfl rfl (by omega) | exact o_alloc zero_Ans rfl rfl | exact o_bsll zero_Ans rfl rfl rfl rfl rfl rfl rfl rfl | exact o_bsll zero_Opn rfl rfl rfl rfl rfl rfl rfl rfl)); (focus (first | exact want_n | exact want_g rfl (by with_reducible rfl)))) | (apply Ws; (focus (first | exact o_stin rfl (by simp) rfl rfl (by first | omega | (simp; omega)) rfl | exact o_stbar rfl (by simp) rfl rfl (by first | omega | (simp; omega)) rfl | exact ok_store tabT (d := none) rfl rfl rfl rfl rfl rfl rfl rfl rfl rfl)); (focus (first | exact want_n | exact want_g rfl (by with_reducible rfl)))) | (refine Wskip (by first | exact want_f rfl (by with_reducible exact b_nt) | exact want_f rfl (by with_reducible exact b_nf) | exact want_t rfl) rfl ?_) | refine Wgt rfl rfl (by first | assumption | omega | exact rfl) ?_ | refine Wgf rfl rfl (by first | assumption | omega | exact rfl) ?_ | (refine Wgb rfl rfl (by with_reducible assumption) ?_) | (refine cb_is _ (by assumption) ?_)))); exact kHid.out) : Q := h ⟨k⟩
theorem wSSo {Q R : Prop} (k : R) (h : Hid R → Q := by intro kHid; ((first | (first | refine Wend _ ?_ | refine AW_seq ?_ | refine AW_reg ?_ | refine AW_drw mixed ?_ | refine AW_block ?_ | refine AW_scope ?_ | refine thenA_n ?_ | refine blockA_n ?_ | refine blockA_h ?_ | refine scopeA_n ?_ | refine thenA_r ?_ | refine blockA_r ?_ | refine scopeA_r ?_ | refine thenA_e ?_ | refine scopeA_e ?_ | refine blockA_e rfl ?_ | refine AW_exit ?_ | refine AW_ret ?_ | refine AW_skip ?_ | refine AW_c rfl ?_ | with_reducible refine cb_t ?_ | with_reducible refine cb_f ?_ | with_reducible refine cb_yes (by first | assumption | omega) ?_ | with_reducible refine cb_no (by first | assumption | omega) ?_ | refine And.intro (by decide +kernel) ?_) | (first | (apply Wv; (focus (first | exact step_ok rfl rfl | exact o_idx rfl rfl rfl rfl (by first | assumption | omega | decide) | exact o_idx3 rfl rfl rfl rfl (by first | assumption | omega | decide) | exact o_idx2 rfl rfl rfl rfl rfl (by first | assumption | omega | decide) | exact o_idxr rfl rfl rfl rfl rfl rfl | exact o_lenm rfl rfl rfl | exact o_len rfl rfl rfl | exact o_len0 rfl rfl rfl | exact o_lens rfl rfl rfl | exact o_lent rfl rfl | exact o_add1 rfl rfl rfl (by omega) | exact o_addn rfl rfl rfl (by omega) | exact o_add rfl rfl rfl (by omega) | exact o_sub1 rfl rfl rfl (by omega) | exact o_sub rfl rfl rfl (by omega) | exact o_mul rfl rfl rfl (by omega) | exact o_rem rfl rfl rfl (by omega) | exact ok_rem rfl rfl rfl (by decide) rfl | exact o_eqKey rfl rfl rfl | exact o_neKey rfl rfl rfl | exact o_eqVl rfl rfl rfl | exact o_neVl rfl rfl rfl | exact o_eqEnt rfl rfl rfl | exact o_neEnt rfl rfl rfl | exact o_eqMsg rfl rfl rfl | exact o_neMsg rfl rfl rfl | exact o_acall rfl rfl rfl rfl (by assumption) | exact o_minn rfl rfl rfl | exact o_cutl rfl rfl rfl rfl (by omega) | exact o_cuth rfl rfl rfl rfl (by omega) | exact o_cutl3 rfl rfl rfl rfl (by omega) | exact o_cuth3 rfl rfl rfl rfl (by omega) | exact o_cutl2 rfl rfl rfl rfl rfl (by omega) | exact o_cuth2 rfl rfl rfl rfl rfl (by omega) | exact o_cutlh2 rfl rfl rfl rfl rfl rfl rfl (by omega) (by omega) | exact o_bld zero_Opn rfl rfl rfl rfl rfl rfl rfl | exact o_bld zero_Cal rfl rfl rfl rfl rfl rfl rfl | exact o_bld zero_state rfl rfl rfl rfl rfl rfl rfl | exact o_bld zero_search rfl rfl rfl rfl rfl rfl rfl | exact o_nilcr rfl rfl | exact o_nilcp rfl rfl | exact o_eqbar rfl rfl rfl (by simp) (by simp) | exact o_ldbar rfl rfl (by simp) rfl (by first | omega | (simp; omega)) rfl | exact o_idxpn rfl rfl rfl rfl (by omega) | exact o_idxvn rfl rfl rfl rfl (by omega) (by assumption) rfl | exact o_idxrn rfl rfl rfl rfl (by omega) (by assumption) | exact o_cutarr rfl rfl rfl rfl | exact o_mkfn rfl rfl rfl | exact o_callv rfl rfl rfl rfl rfl rfl (by assumption) | exact o_bld zero_Ans rfl rfl rfl rfl rfl rfl rfl | exact o_eqAns rfl rfl rfl | exact o_neAns rfl rfl rfl | exact e_bld rfl rfl rfl | exact e_bldk rfl rfl | exact z_bld0 rfl rfl rfl rfl rfl | exact z_bld rfl rfl rfl rfl rfl rfl rfl | exact o_addu rfl rfl rfl | exact z_blda rfl rfl rfl rfl rfl rfl rfl rfl rfl | exact o_idxa rfl rfl rfl rfl rfl rfl | exact o_idxra rfl rfl rfl rfl rfl rfl rfl | exact o_quo2 rfl rfl rfl (by omega) | exact o_quo rfl rfl rfl (by omega))); (focus (first | exact want_n | exact want_g rfl (by with_reducible rfl)))) | (apply Wb; (focus (first | exact o_box rfl rfl rfl rfl | exact o_app rfl rfl rfl rfl rfl (by first | exact o_many rfl | exact o_one _ _ rfl) (by first | omega | (simp; omega) | simp) (by first | omega | (simp; omega) | simp) | exact o_appn rfl rfl rfl rfl rfl (by first | exact o_many rfl | exact o_one _ _ rfl) (by first | omega | (simp; omega) | simp) (by first | omega | (simp; omega) | simp) | exact o_app1 rfl rfl rfl rfl rfl (by first | exact o_many rfl | exact o_one _ _ rfl) (by exact rfl) (by first | omega | (simp; omega) | simp) (by first | omega | (simp; omega) | simp) | exact o_app0 rfl rfl rfl rfl rfl (by first | exact o_many rfl | exact o_one _ _ rfl) (by first | omega | (simp; omega) | simp) (by first | omega | (simp; omega) | simp) | exact o_bsl0 rfl rfl rfl | exact z_bsll rfl rfl rfl rfl rfl rfl rfl rfl rfl | exact z_alloc rfl rfl rfl | exact o_alloc zero_Opn rfl rfl | exact o_alloc zero_Cal rfl rfl | exact o_alloc zero_state rfl rfl | exact o_alloc zero_b14 rfl rfl | exact o_cpents rfl rfl rfl rfl rfl rfl (by omega) | exact o_alloc zero_Ans rfl rfl | exact o_bsll zero_Ans rfl rfl rfl rfl rfl rfl rfl rfl | exact o_bsll zero_Opn rfl rfl rfl rfl rfl rfl rfl rfl)); (focus (first | exact want_n | exact want_g rfl (by with_reducible rfl)))) | (apply Ws; (focus (first | exact o_stin rfl (by simp) rfl rfl (by first | omega | (simp; omega)) rfl | exact o_stbar rfl (by simp) rfl rfl (by first | omega | (simp; omega)) rfl | exact ok_store tabT (d := none) rfl rfl rfl rfl rfl rfl rfl rfl rfl rfl)); (focus (first | exact want_n | exact want_g rfl (by with_reducible rfl)))) | (refine Wskip (by first | exact want_f rfl (by with_reducible exact b_nt) | exact want_f rfl (by with_reducible exact b_nf) | exact want_t rfl) rfl ?_) | refine Wgt rfl rfl (by first | assumption | omega | exact rfl) ?_ | refine Wgf rfl rfl (by first | assumption | omega | exact rfl) ?_ | (refine Wgb rfl rfl (by with_reducible assumption) ?_) | (refine cb_is _ (by assumption) ?_)))); exact kHid.out) : Q := h ⟨k⟩
theorem inn_nil : inn [] = List.replicate 14 false := rfl
theorem inn_snoc {o : List Nat} {k : Nat} (hk : k < 14) : (inn o).set k true = inn (o ++ [k]) := by
  apply List.ext_getElem?
  intro i
  rw [List.getElem?_set]
  unfold inn
  simp only [List.getElem?_map, List.length_map, List.length_range]
  by_cases hi : i < 14
  · rw [List.getElem?_range hi]
    by_cases c : k = i
    · subst c; simp [hi]
    · rw [if_neg c]; simp [show ¬ i = k from fun e => c e.symm]
  · rw [if_neg (by omega), List.getElem?_eq_none (by simp; omega)]; rfl
def ans (d mu : List Bool) (j : Nat) : List Bool := (List.range 14).map fun i => dOf d i && (decide (j ≤ i) || dOf mu i)
@[simp] theorem ans_len (d mu : List Bool) (j : Nat) : (ans d mu j).length = 14 := by simp [ans]
theorem dOf_map {p : Nat → Bool} {i : Nat} (h : i < 14) : dOf ((List.range 14).map p) i = p i := by
  unfold dOf
  rw [List.getD_eq_getElem?_getD, List.getElem?_map, List.getElem?_range h]; rfl
theorem ext14 {a b : List Bool} (ha : a.length = 14) (hb : b.length = 14) (h : ∀ i, i < 14 → dOf a i = dOf b i) : a = b := by
  apply List.ext_getElem (by omega)
  intro i h1 h2
  have := h i (by omega)
  unfold dOf at this
  rw [List.getD_eq_getElem?_getD, List.getD_eq_getElem?_getD, List.getElem?_eq_getElem h1, List.getElem?_eq_getElem h2] at this
  exact this
theorem ans_zero {d mu : List Bool} (h : d.length = 14) : ans d mu 0 = d := ext14 (by simp) h fun i hi => by unfold ans; rw [dOf_map hi]; simp
theorem ans_all {d mu : List Bool} (h : d.length = 14) (h' : mu.length = 14) : ans d mu 14 = List.zipWith (· && ·) d mu := ext14 (by simp) (by simp [h, h']) fun i hi => by
  unfold ans
  rw [dOf_map hi, decide_eq_false (by omega), Bool.false_or]
  unfold dOf
  rw [List.getD_eq_getElem?_getD, List.getD_eq_getElem?_getD, List.getD_eq_getElem?_getD, List.getElem?_zipWith, List.getElem?_eq_getElem (by omega), List.getElem?_eq_getElem (by omega)]; rfl
theorem ans_at {d mu : List Bool} {j : Nat} (h : j < 14) : dOf (ans d mu j) j = dOf d j := by unfold ans; rw [dOf_map h]; simp
theorem ans_snoc {d mu : List Bool} {j : Nat} (h : j < 14) : (ans d mu j).set j (dOf d j && dOf mu j) = ans d mu (j + 1) := ext14 (by simp) (by simp) fun i hi => by
  have e2 : dOf (ans d mu (j + 1)) i = (dOf d i && (decide (j + 1 ≤ i) || dOf mu i)) := by unfold ans; rw [dOf_map hi]
  have e1 : dOf (ans d mu j) i = (dOf d i && (decide (j ≤ i) || dOf mu i)) := by unfold ans; rw [dOf_map hi]
  rw [e2]
  by_cases c : j = i
  · subst c
    unfold dOf
    rw [List.getD_eq_getElem?_getD, List.getElem?_set_self (by simp; omega)]
    simp [show ¬ j + 1 ≤ j by omega]
  · have : dOf ((ans d mu j).set j (dOf d j && dOf mu j)) i = dOf (ans d mu j) i := by
      unfold dOf
      rw [List.getD_eq_getElem?_getD, List.getElem?_set_ne c, ← List.getD_eq_getElem?_getD]
    rw [this, e1]
    congr 2
    rw [decide_eq_decide]; omega
theorem res_ord {S : St} {t : Nat} {o : List Nat} (h : S.t t = some (ordA o)) : Res1 Try.prog S (.tmp t) (numsA o) := by
  cases o with
  | nil => exact res_nil h
  | cons k o => exact res_sl h
attribute [local irreducible] OpOK AWops AW CondB Go2 AFn thenA inBlockA noGotoA orderOk wantedA
attribute [local irreducible] AWM MFn
set_option maxRecDepth 100000 in
set_option maxHeartbeats 4000000 in
theorem m_step (l : List Cal) (hl : l.length ≤ 14) (R : List Bool → List Ent → List Ky → Rs) (o : List Nat) (hol : o.length ≤ 14) (ho : ∀ k ∈ o, k < 14) (m : List Ent) (hm : Lf m) (hml : m.length ≤ o.length) (T : List Ky) (hT : ∀ k ∈ T, KyOk k) (b : Nat)
    (hR : ∀ i m' T', i < l.length → dOf (inn o) i = false → Lf m' → m'.length ≤ o.length + 1 → (∀ k ∈ T', KyOk k) → (∀ k ∈ (R ((inn o).set i true) m' T').2, KyOk k) ∧
      MFn Try.prog 28 b (mObj keyV T') [searchA l b, ordA (o ++ [i]), entsA m'] (mObj keyV (R ((inn o).set i true) m' T').2) (.tup [numsA (ordO (o ++ [i]) (R ((inn o).set i true) m' T').1), boolA (R ((inn o).set i true) m' T').1.isSome])) :
    MFn Try.prog 28 b (mObj keyV T) [searchA l b, ordA o, entsA m] (mObj keyV (fmB l R (inn o) m T).2) (.tup [numsA (ordO o (fmB l R (inn o) m T).1), boolA (fmB l R (inn o) m T).1.isSome]) := by
  refine MFn_intro Try.func28 rfl Try.ntmps28 rfl (by simp) [_, _] rfl fun E hE hlt => ?_
  have hnt : (!true) = false := rfl
  have hnf : (!false) = true := rfl
  have hEp : ∀ (oo : Obj) (k : Nat), ¬ (E.put b oo).ent k := fun _ k => hE k
  refine AWM_seqA ?_
  refine wSS ?_
  refine AWM_seqA ?_
  refine wSS ?_
  refine AWM_seqA ?_
  refine wSS ?_
  refine AWM_seqA ?_
  refine wSS ?_
  (apply Wv; (focus (exact o_lenord rfl rfl rfl)); (focus (first | exact want_n | exact want_g rfl (by with_reducible rfl))))
  refine wSS ?_
  refine AW_go (Go2.re 28 rfl (ordA_re o)) ?_
  rw [← inn_nil]
  refine AW_loopI (fun j : Nat => ⟨[(0, searchA l b), (1, ordA o), (2, entsA m), (8, .ptr 8 0 []), (28, numsA o), (29, intA (o.length : Nat)), (30, intA (j : Nat))], [(8, .var (stA (inn (o.take j)) (m.length : Nat) (padE m)))]⟩) (fun j => j ≤ o.length) (fun j => o.length - j) 0 (Nat.zero_le _) (by (refine Go2.sub ⟨?_, ?_, ?_⟩ <;> repeat' (first | exact True.intro | rfl | exact ordN _ _ | apply And.intro))) (fun j hj => ?_)
  by_cases c : j < o.length
  · have hk := ho o[j] (List.getElem_mem c)
    have hs : o.take (j + 1) = o.take j ++ [o[j]] := by rw [List.take_append_getElem c]
    have hil := inn_len (o.take j)
    refine wSS ?_
    refine ⟨j + 1, by omega, by omega, ?_⟩
    rw [hs, ← inn_snoc hk]
    (refine Go2.sub ⟨?_, ?_, ?_⟩ <;> repeat' (first | exact True.intro | rfl | exact ordN _ _ | apply And.intro))
  obtain rfl : j = o.length := by omega
  rw [List.take_length]
  refine wSS ?_
  refine AWM_go (Go2.froz (hEp _) 8 rfl) ?_
  refine AWM_go (Go2.ref 8 8 rfl rfl rfl) ?_
  refine AWM_go (S' := ⟨[(0, searchA l b), (1, ordA o), (2, entsA m), (8, .ref (stA (inn o) (m.length : Nat) (padE m)))], []⟩) (by (refine Go2.sub ⟨?_, ?_, ?_⟩ <;> repeat' (first | exact True.intro | rfl | exact ordN _ _ | apply And.intro))) ?_
  refine AWM_seqA ?_
  refine wSS ?_
  refine AWM_seqA ?_
  refine wSS ?_
  refine AWM_seqA ?_
  refine wSS ?_
  rw [show barA (inn o) = barA (ans (inn o) (mustOf l) 0) by rw [ans_zero (inn_len o)]]
  refine AW_loopI (fun j : Nat => ⟨[(0, searchA l b), (1, ordA o), (2, entsA m), (8, .ref (stA (inn o) (m.length : Nat) (padE m))), (11, .fn (.func 45) [] [.ref (stA (inn o) (m.length : Nat) (padE m))]), (12, .ptr 12 0 []), (44, barA (mustOf l)), (45, intA (j : Nat))], [(12, .var (barA (ans (inn o) (mustOf l) j)))]⟩) (fun j => j ≤ 14) (fun j => 14 - j) 0 (by omega) (by (refine Go2.sub ⟨?_, ?_, ?_⟩ <;> repeat' (first | exact True.intro | rfl | exact ordN _ _ | apply And.intro))) (fun j hj => ?_)
  by_cases c : j < 14
  · have hmj : ((mustOf l).map boolA)[j]? = some (boolA (dOf (mustOf l) j)) := by
      unfold dOf
      rw [List.getElem?_map, List.getD_eq_getElem?_getD, List.getElem?_eq_getElem (by simp; omega)]; rfl
    have hsn := ans_snoc (d := inn o) (mu := mustOf l) c
    cases hd : dOf (ans (inn o) (mustOf l) j) j
    · rw [← ans_at (mu := mustOf l) c, hd, Bool.false_and] at hsn
      refine wSS ?_
      refine ⟨j + 1, by omega, by omega, ?_⟩
      rw [← hsn]
      (refine Go2.sub ⟨?_, ?_, ?_⟩ <;> repeat' (first | exact True.intro | rfl | exact ordN _ _ | apply And.intro))
    · rw [← ans_at (mu := mustOf l) c, hd, Bool.true_and] at hsn
      refine wSS ?_
      refine ⟨j + 1, by omega, by omega, ?_⟩
      rw [← hsn]
      (refine Go2.sub ⟨?_, ?_, ?_⟩ <;> repeat' (first | exact True.intro | rfl | exact ordN _ _ | apply And.intro))
  obtain rfl : j = 14 := by omega
  rw [ans_all (inn_len o) (must_len l)]
  refine wSS ?_
  refine AWM_go (S' := ⟨[(0, searchA l b), (1, ordA o), (2, entsA m), (8, .ref (stA (inn o) (m.length : Nat) (padE m))), (11, .fn (.func 45) [] [.ref (stA (inn o) (m.length : Nat) (padE m))]), (12, .ptr 12 0 [])], [(12, .var (barA (List.zipWith (· && ·) (inn o) (mustOf l))))]⟩) (by (refine Go2.sub ⟨?_, ?_, ?_⟩ <;> repeat' (first | exact True.intro | rfl | exact ordN _ _ | apply And.intro))) ?_
  by_cases hov : List.zipWith (· && ·) (inn o) (mustOf l) = mustOf l
  · have hB : fmB l R (inn o) m T = (some [], T) := by unfold fmB ovr; rw [if_pos (decide_eq_true hov)]
    rw [hB]
    have ea : ordO o (some []) = o := List.append_nil o
    dsimp only
    rw [ea]
    refine AWM_seqA ?_
    refine wSS ?_
    exact ⟨.inr rfl, rfl, res_ord rfl, res_of rfl rfl rfl, trivial⟩
  have hov' : ¬ ovr l (inn o) = true := fun h => hov (of_decide_eq_true h)
  have hkk : KyOk (inn o, m) := ⟨inn_len o, Nat.le_trans hml hol, hm.ok⟩
  have hz : ∀ w, (zeroValue 4).run Try.prog w = .ok (.bool false) w := fun w => by kernel_rfl
  refine AWM_seqA ?_
  refine wSS ?_
  refine AWM_go (S' := ⟨[(0, searchA l b), (1, ordA o), (2, entsA m), (8, .ref (stA (inn o) (m.length : Nat) (padE m))), (11, .fn (.func 45) [] [.ref (stA (inn o) (m.length : Nat) (padE m))])], []⟩) (by (refine Go2.sub ⟨?_, ?_, ?_⟩ <;> repeat' (first | exact True.intro | rfl | exact ordN _ _ | apply And.intro))) ?_
  by_cases hin : (inn o, m) ∈ T
  · have hB : fmB l R (inn o) m T = (none, T) := by unfold fmB; rw [if_neg hov', if_pos hin]
    rw [hB]
    refine AWM_seqA ?_
    refine wSS ?_
    (apply Wv; (focus (exact o_setLook (f := keyV) (x := (inn o, m)) rfl rfl rfl (fun _ _ _ _ _ h => keyA_rd (k := (inn o, m)) h) hlt hE Try.underlying63 hz state_law (fun k hk e => keyV_inj (hT k hk) hkk e) (fun k hk => key_some (hT k hk)) (key_some hkk))); (focus (first | exact want_n | exact want_g rfl (by with_reducible rfl))))
    refine wSS ?_
    rw [show ∀ inst, @decide ((inn o, m) ∈ T) inst = true from fun inst => decide_eq_true hin]
    refine wSS ?_
    exact ⟨.inr rfl, rfl, res_nil rfl, res_of rfl rfl rfl, trivial⟩
  have hB : fmB l R (inn o) m T = fmL l R (inn o) m (List.range l.length) (T ++ [(inn o, m)]) := by unfold fmB; rw [if_neg hov', if_neg hin]
  rw [hB]
  refine AWM_seqA ?_
  refine wSS ?_
  (apply Wv; (focus (exact o_setLook (f := keyV) (x := (inn o, m)) rfl rfl rfl (fun _ _ _ _ _ h => keyA_rd (k := (inn o, m)) h) hlt hE Try.underlying63 hz state_law (fun k hk e => keyV_inj (hT k hk) hkk e) (fun k hk => key_some (hT k hk)) (key_some hkk))); (focus (first | exact want_n | exact want_g rfl (by with_reducible rfl))))
  refine wSS ?_
  rw [show ∀ inst, @decide ((inn o, m) ∈ T) inst = false from fun inst => decide_eq_false hin]
  refine wSS ?_
  refine AWM_go (S' := ⟨[(0, searchA l b), (1, ordA o), (2, entsA m), (8, .ref (stA (inn o) (m.length : Nat) (padE m))), (11, .fn (.func 45) [] [.ref (stA (inn o) (m.length : Nat) (padE m))])], []⟩) (by (refine Go2.sub ⟨?_, ?_, ?_⟩ <;> repeat' (first | exact True.intro | rfl | exact ordN _ _ | apply And.intro))) ?_
  refine AWM_seq (AWM_drawLast mixed (n := 5) ?_)
  refine wSS ?_
  refine ⟨_, _, last_setPut (f := keyV) (x := (inn o, m)) rfl rfl rfl (fun _ _ _ _ _ h => keyA_rd (k := (inn o, m)) h) hlt hE Try.underlying63 state_law (fun k hk e => keyV_inj (hT k hk) hkk e) (fun k hk => key_some (hT k hk)) (key_some hkk) hin, ?_⟩
  generalize hF : fmL l R (inn o) m (List.range l.length) (T ++ [(inn o, m)]) = F
  refine AWM_seq ?_
  refine AWM_seqA ?_
  refine wSS ?_
  refine AWM_block (AWM_loopI (fun x : Nat × List Ky => (mObj keyV x.2, ⟨[(0, searchA l b), (1, ordA o), (2, entsA m), (8, .ref (stA (inn o) (m.length : Nat) (padE m))), (11, .fn (.func 45) [] [.ref (stA (inn o) (m.length : Nat) (padE m))]), (79, calsA l), (80, intA (l.length : Nat)), (81, intA (x.1 : Nat))], []⟩)) (fun x => x.1 ≤ l.length ∧ (∀ k ∈ x.2, KyOk k) ∧ fmL l R (inn o) m (List.range' x.1 (l.length - x.1)) x.2 = F) (fun x => l.length - x.1) (0, T ++ [(inn o, m)]) ⟨Nat.zero_le _, fun k hk => ?_, ?_⟩ rfl (by (refine Go2.sub ⟨?_, ?_, ?_⟩ <;> repeat' (first | exact True.intro | rfl | exact ordN _ _ | apply And.intro))) (fun x hx => ?_))
  · rw [List.mem_append, List.mem_singleton] at hk
    rcases hk with hk | rfl
    · exact hT k hk
    · exact hkk
  · rw [← hF, List.range_eq_range']
    rfl
  obtain ⟨j, U⟩ := x
  obtain ⟨hj, hU, hFj⟩ := hx
  dsimp only at hj hU hFj ⊢
  refine AWM_seqA ?_
  by_cases c : j < l.length
  · have hr : fmL l R (inn o) m (List.range' j (l.length - j)) U = fmL l R (inn o) m (j :: List.range' (j + 1) (l.length - (j + 1))) U := by rw [show l.length - j = (l.length - (j + 1)) + 1 by omega, List.range'_succ]
    rw [hr] at hFj
    refine wSS ?_
    refine AWM_seqA ?_
    refine wSS ?_
    refine AWM_seq (AWM_block ?_)
    refine AWM_seqA ?_
    refine wSS ?_
    have hdj : ((inn o).map boolA)[j]? = some (boolA (dOf (inn o) j)) := by
      unfold dOf
      rw [List.getElem?_map, List.getD_eq_getElem?_getD, List.getElem?_eq_getElem (by simp; omega)]; rfl
    have cf := fun k (hk : k < l.length) => acall Try.func45 (a_from1 (inn o) (inn_len o) (intA (m.length : Nat)) (.arr 364 26 ((padE m).map Ent.av)) k (by omega)) (by decide +kernel) (by decide +kernel)
    have hat : atC l j = l[j] := (atC_get c).symm
    cases hd : dOf (inn o) j
    · rw [hd] at hdj
      have cr := a_ready1 l (by omega) j c (dOf (inn o)) 45 (stA (inn o) (m.length : Nat) (padE m)) cf
      cases hrd : rdy l j (dOf (inn o))
      · rw [hrd] at cr
        have d1 := acall Try.func32 (cr) (by decide +kernel) (by decide +kernel)
        have hF2 : fmL l R (inn o) m (List.range' (j + 1) (l.length - (j + 1))) U = F := by
          rw [← hFj]; simp [fmL, hd, hrd]
        refine AWM_seqA ?_
        refine wSS ?_
        dsimp only [thenM, inBlockM]
        refine AWM_of ?_
        refine wSS ?_
        dsimp only [thenM]
        exact ⟨(j + 1, U), ⟨by omega, hU, hF2⟩, by omega, rfl, by (refine Go2.sub ⟨?_, ?_, ?_⟩ <;> repeat' (first | exact True.intro | rfl | exact ordN _ _ | apply And.intro))⟩
      · rw [hrd] at cr
        have d1 := acall Try.func32 (cr) (by decide +kernel) (by decide +kernel)
        have cd := a_do m l[j] hm (by omega)
        have hlf := doC_lf hm l[j]
        have hln := doC_len m l[j]
        have hst : (inn o).set j true = inn (o ++ [j]) := inn_snoc (by omega)
        rcases hdo : doC m l[j] with ⟨m2, ok⟩
        rw [hdo] at cd hlf hln
        dsimp only at cd hlf hln
        have d2 := acall Try.func33 (cd) (by decide +kernel) (by decide +kernel)
        refine AWM_seqA ?_
        refine wSS ?_
        refine AWM_seqA ?_
        refine wSS ?_
        cases ok
        · have hF2 : fmL l R (inn o) m (List.range' (j + 1) (l.length - (j + 1))) U = F := by
            rw [← hFj]; simp [fmL, hd, hrd, hat, hdo]
          refine AWM_seqA ?_
          refine wSS ?_
          dsimp only [thenM, inBlockM]
          refine AWM_of ?_
          refine wSS ?_
          dsimp only [thenM]
          exact ⟨(j + 1, U), ⟨by omega, hU, hF2⟩, by omega, rfl, by (refine Go2.sub ⟨?_, ?_, ?_⟩ <;> repeat' (first | exact True.intro | rfl | exact ordN _ _ | apply And.intro))⟩
        refine AWM_seqA ?_
        refine wSS ?_
        obtain ⟨k1, k2⟩ := hR j m2 U c hd hlf (by omega) hU
        rcases hRR : R ((inn o).set j true) m2 U with ⟨rs, T2⟩
        rw [hRR] at k1 k2
        dsimp only at k1 k2
        refine AWM_seq ?_
        refine AWM_regionCut (n := 7) (by decide) ?_
        cases o with
        | nil =>
          have d3 := acall Try.func46 (a_clonenil) (by decide +kernel) (by decide +kernel)
          refine wSS ?_
          have k2' : MFn Try.prog 28 b (mObj keyV U) [searchA l b, .sl none (0 + 1) (List.map intA [(j : Int)]), entsA m2] (mObj keyV T2) (.tup [numsA (ordO ([] ++ [j]) rs), boolA rs.isSome]) := k2
          refine ⟨_, _, last_call rfl Try.func28 (by decide +kernel) (by decide +kernel) rfl (fun H' => by (repeat (first | exact wkl0 | refine wkd rfl ?_ | refine wkt ?_ | refine wkn ?_)); done) rfl k2' hlt hE rfl rfl, ?_⟩
          refine wSS ?_
          dsimp only [thenM]
          cases rs with
          | some q =>
            have hF2 : F = (some (j :: q), T2) := by
              rw [← hFj]; simp [fmL, hd, hrd, hat, hdo, hRR]
            subst hF2
            have eo : ordO ([] ++ [j]) (some q) = ordO ([]) (some (j :: q)) := by simp [ordO]
            rw [eo]
            refine AWM_seqA ?_
            refine wSS ?_
            refine AWM_cond true rfl (fun _ => ?_) (fun h => absurd h (by decide))
            refine AWM_seqA ?_
            refine wSS ?_
            refine AWM_ret ?_
            dsimp only [inBlockM, thenM]
            exact ⟨.inr rfl, rfl, res_sl rfl, res_of rfl rfl rfl, trivial⟩
          | none =>
            have hF2 : fmL l R (inn ([])) m (List.range' (j + 1) (l.length - (j + 1))) T2 = F := by
              rw [← hFj]; simp [fmL, hd, hrd, hat, hdo, hRR]
            refine AWM_seqA ?_
            refine wSS ?_
            refine AWM_cond false rfl (fun h => absurd h (by decide)) (fun _ => ?_)
            refine AWM_of ?_
            refine wSS ?_
            dsimp only [thenM, inBlockM]
            refine AWM_of ?_
            refine wSS ?_
            dsimp only [thenM]
            exact ⟨(j + 1, T2), ⟨by omega, k1, hF2⟩, by omega, rfl, by (refine Go2.sub ⟨?_, ?_, ?_⟩ <;> repeat' (first | exact True.intro | rfl | exact ordN _ _ | apply And.intro))⟩
        | cons p o =>
          have k2' : MFn Try.prog 28 b (mObj keyV U) [searchA l b, .sl none 1 (List.map natA (p :: o) ++ [natA j]), entsA m2] (mObj keyV T2) (.tup [numsA (ordO (p :: o ++ [j]) rs), boolA rs.isSome]) := by
            have e : ordA (p :: o ++ [j]) = .sl none 1 (List.map natA (p :: o) ++ [natA j]) := by
              show numsA (p :: (o ++ [j])) = _
              simp [numsA]
            rw [e] at k2
            exact k2
          have d3 := ccall Try.func46 (c_clone (p :: o) (by simp) (by omega)) (by decide +kernel) (by decide +kernel)
          refine wSS ?_
          (apply Wc; (focus (exact o_ccall [(5, 111)] d3 rfl rfl rfl rfl (by repeat (first | exact .nil | refine .cons (.inl ⟨rfl, rfl⟩) ?_ | refine .cons (.inr ⟨rfl, fun _ => Wk.tok⟩) ?_)) (by repeat' (first | exact True.intro | rfl | apply And.intro)) (by repeat' (first | exact True.intro | rfl | apply And.intro)) rfl rfl rfl)); (focus (first | exact want_n | exact want_g rfl (by with_reducible rfl))))
          refine wSS ?_
          have ho1 : ((p :: o).length + [j].length) * 8 ≤ 140737488355328 := by simp at hol ⊢; omega
          have ho2 : (p :: o).length + [j].length ≤ 9223372036854775807 := by simp at hol ⊢; omega
          (apply Wb; (focus (exact o_app (f := natA) (tk := 111) (xs := p :: o) (zs := [j]) rfl rfl rfl rfl rfl (by exact o_one _ _ rfl) ho1 ho2)); (focus (first | exact want_n | exact want_g rfl (by with_reducible rfl))))
          refine wSS ?_
          rw [List.map_append]
          refine ⟨_, _, last_call rfl Try.func28 (by decide +kernel) (by decide +kernel) rfl (fun H' => by (repeat (first | exact wkl0 | refine wkd rfl ?_ | refine wkt ?_ | refine wkn ?_)); done) rfl k2' hlt hE rfl rfl, ?_⟩
          refine wSS ?_
          dsimp only [thenM]
          cases rs with
          | some q =>
            have hF2 : F = (some (j :: q), T2) := by
              rw [← hFj]; simp [fmL, hd, hrd, hat, hdo, hRR]
            subst hF2
            have eo : ordO (p :: o ++ [j]) (some q) = ordO (p :: o) (some (j :: q)) := by simp [ordO]
            rw [eo]
            refine AWM_seqA ?_
            refine wSS ?_
            refine AWM_cond true rfl (fun _ => ?_) (fun h => absurd h (by decide))
            refine AWM_seqA ?_
            refine wSS ?_
            refine AWM_ret ?_
            dsimp only [inBlockM, thenM]
            exact ⟨.inr rfl, rfl, res_sl rfl, res_of rfl rfl rfl, trivial⟩
          | none =>
            have hF2 : fmL l R (inn (p :: o)) m (List.range' (j + 1) (l.length - (j + 1))) T2 = F := by
              rw [← hFj]; simp [fmL, hd, hrd, hat, hdo, hRR]
            refine AWM_seqA ?_
            refine wSS ?_
            refine AWM_cond false rfl (fun h => absurd h (by decide)) (fun _ => ?_)
            refine AWM_of ?_
            refine wSS ?_
            dsimp only [thenM, inBlockM]
            refine AWM_of ?_
            refine wSS ?_
            dsimp only [thenM]
            exact ⟨(j + 1, T2), ⟨by omega, k1, hF2⟩, by omega, rfl, by (refine Go2.sub ⟨?_, ?_, ?_⟩ <;> repeat' (first | exact True.intro | rfl | exact ordN _ _ | apply And.intro))⟩
    · rw [hd] at hdj
      have hF2 : fmL l R (inn o) m (List.range' (j + 1) (l.length - (j + 1))) U = F := by
        rw [← hFj]; simp [fmL, hd]
      refine AWM_seqA ?_
      refine wSS ?_
      dsimp only [thenM, inBlockM]
      refine AWM_of ?_
      refine wSS ?_
      dsimp only [thenM]
      exact ⟨(j + 1, U), ⟨by omega, hU, hF2⟩, by omega, rfl, by (refine Go2.sub ⟨?_, ?_, ?_⟩ <;> repeat' (first | exact True.intro | rfl | exact ordN _ _ | apply And.intro))⟩
  · obtain rfl : j = l.length := by omega
    rw [Nat.sub_self] at hFj
    have hFj : F = (none, U) := hFj.symm
    subst hFj
    refine wSS ?_
    refine AWM_seqA ?_
    refine wSS ?_
    dsimp only [thenM, inBlockM]
    refine AWM_seqA ?_
    refine wSS ?_
    refine AWM_ret ?_
    exact ⟨.inr rfl, rfl, res_nil rfl, res_of rfl rfl rfl, trivial⟩
end Go.Proofs.Ytphojngdgmnpaaa

namespace Go.Proofs.Ytphojngdgmnpaaa
open Go Go.RowKit
set_option linter.unusedVariables false
set_option linter.unusedSimpArgs false
set_option maxRecDepth 100000
set_option linter.unusedSectionVars false
/-! ### a function's own map -/
section
variable {P : Program} {E : Env} {nt : Nat}
theorem alloc_size (w : World) (o : Obj) : (w.alloc o).heap.size = w.heap.size + 1 := Array.size_push ..
theorem alloc_new (w : World) (o : Obj) : (w.alloc o).heap[w.heap.size]? = some o := Array.getElem?_push_size ..
theorem alloc_old (w : World) (o : Obj) {k : Nat} (h : k < w.heap.size) : (w.alloc o).heap[k]? = w.heap[k]? := by
  show (w.heap.push o)[k]? = _
  rw [Array.getElem?_push, if_neg (by omega)]
def nwE (E : Env) (w1 : World) : Env := ⟨w1, fun k q => k < E.w0.heap.size ∧ E.X k q, fun _ => none, fun _ _ => rfl, E.df⟩
theorem nwE_ent (E : Env) (w1 : World) (k : Nat) : ¬ (nwE E w1).ent k := fun ⟨g, v, h⟩ => by cases h
theorem nwE_back {w w1 : World} {b : Nat} {o' : Obj} {B : Blk} {T : Nat → Option AV} {H : Hp} {a' : Act} {w' : World} (hl : Left E w) (heb : ∀ g, E.eb g = none) (hw : w1 = w.alloc (.map #[] 0)) (hb : b = w.heap.size)
    (r : Rel ((nwE E w1).put b o') nt B T H a' w') : Rel E nt B T H a' w' := by
  have hent : ∀ k, ¬ E.ent k := fun k ⟨g, v, h⟩ => by rw [heb] at h; cases h
  have hsz : w1.heap.size = w.heap.size + 1 := by rw [hw]; exact alloc_size w _
  have hE0 := hl.size
  have hu : unst ((nwE E w1).put b o') B H = unst E B H := by
    rw [unst_put]
    funext k q
    unfold unst
    apply propext
    constructor
    · rintro (⟨h1, h2, _⟩ | h)
      · exact .inl ⟨h2.1, h2.2, hent k⟩
      · exact .inr h
    · rintro (⟨h1, h2, _⟩ | h)
      · exact .inl ⟨by show k < w1.heap.size; omega, ⟨h1, h2⟩, nwE_ent _ _ _⟩
      · exact .inr h
  have hm : ∀ k q, Mine ((nwE E w1).put b o') k q → Mine E k q := fun k q h => by
    rcases h with h | ⟨_, h, _⟩
    · rw [Env.put_size] at h
      exact .inl (by have : (nwE E w1).w0.heap.size = w1.heap.size := rfl; omega)
    · exact absurd h (nwE_ent E w1 k)
  have hbl : ∀ k, k < E.w0.heap.size → w'.heap[k]? = E.w0.heap[k]? := fun k hk => by
    have h1 := r.left.block k (by rw [Env.put_size]; show k < w1.heap.size; omega) (nwE_ent E w1 k)
    rw [h1, ← hl.block k hk (hent k)]
    simp only [Env.put, Array.getElem?_setIfInBounds]
    rw [if_neg (by omega)]
    show w1.heap[k]? = _
    rw [hw]
    exact alloc_old w _ (by omega)
  refine ⟨r.nt, r.df, fun s x hs => ?_, fun g bx h => ?_, r.non, r.inj, ⟨?_, ?_, ?_, ?_, fun k hk _ => hbl k hk, ?_, ?_⟩, fun g _ => heb g⟩
  · obtain ⟨v, h1, h2⟩ := r.tmp s x hs
    rw [hu] at h2
    exact ⟨v, h1, h2⟩
  · have hb := r.box g bx h
    cases bx with
    | var x =>
      obtain ⟨q, cs, t, h1, h2, h3, h4, h5⟩ := hb
      rw [hu] at h3
      exact ⟨q, cs, t, h1, h2, h3, hm _ _ h4, Tie.none (heb g)⟩
    | froz x =>
      obtain ⟨q, cs, h1, h2, h3, h4⟩ := hb
      rw [hu] at h3 h4
      exact ⟨q, cs, h1, h2, h3, h4⟩
    | tail e n k =>
      obtain ⟨h0, _, h1⟩ := hb
      refine ⟨h0, Tie.none (heb g), h1.imp id ?_⟩
      rintro ⟨q, cur, cap, k1, k2, k3, k4, k5, k6⟩
      exact ⟨q, cur, cap, k1, k2, k3, k4, k5, hm _ _ k6⟩
    | own e n xs =>
      obtain ⟨h0, _, h1⟩ := hb
      refine ⟨h0, Tie.none (heb g), h1.imp id ?_⟩
      rintro ⟨q, cur, cap, c, k1, k2, k3, k4, k5, k6, k7, k8⟩
      rw [hu] at k7
      exact ⟨q, cur, cap, c, k1, k2, k3, k4, k5, k6, k7, hm _ _ k8⟩
  · rw [r.left.os, ← hl.os]; show w1.os = _; rw [hw]; rfl
  · rw [r.left.tape, ← hl.tape]; show w1.tape = _; rw [hw]; rfl
  · rw [r.left.output, ← hl.output]; show w1.output = _; rw [hw]; rfl
  · have := r.left.size
    rw [Env.put_size] at this
    have e : (nwE E w1).w0.heap.size = w1.heap.size := rfl
    omega
  · have := r.left.size
    rw [Env.put_size] at this
    have e : (nwE E w1).w0.heap.size = w1.heap.size := rfl
    omega
  · intro k cs t fr h
    have hk : k < E.w0.heap.size := (Array.getElem?_eq_some_iff.1 h).1
    exact ⟨cs, by rw [hbl k hk]; exact h, rfl, fun _ _ => rfl⟩
theorem nwE_go {B : Blk} {T : Nat → Option AV} {H : Hp} {a : Act} {w w1 : World} (hH : ∀ g, H g = none) (hw : w1 = w.alloc (.map #[] 0)) {d : Nat} (hd : d < nt)
    (r : Rel E nt B T H a w) : Rel ((nwE E w1).put w.heap.size (.map #[] 0)) nt B (upd T d (.v (.map (some w.heap.size)))) H (a.put (some d) (.map (some w.heap.size))) w1 := by
  have hsz : w1.heap.size = w.heap.size + 1 := by rw [hw]; exact alloc_size w _
  have hat : w1.heap[w.heap.size]? = some (.map #[] 0) := by rw [hw]; exact alloc_new w _
  have ext : Ext w w1 := by rw [hw]; exact (Ext.refl w).alloc _
  have ep : (nwE E w1).put w.heap.size (.map #[] 0) = nwE E w1 := Env.put_same hat
  rw [ep]
  have hBn : ∀ g, B g = none := fun g => r.non g (hH g)
  have hU : ∀ k q, k < w.heap.size → unst (nwE E w1) B H k q → unst E B H k q := fun k q hk h => by
    rcases h with ⟨_, h2, _⟩ | ⟨g, h2, _⟩
    · exact .inl ⟨h2.1, h2.2, fun ⟨g, v, h⟩ => by rw [r.keep g (hH g)] at h; cases h⟩
    · rw [hBn] at h2; cases h2
  have hp : Pic w w1 B B H H := ⟨fun _ _ _ h => h, fun _ h => h, fun t n len A cap h => (by obtain ⟨e, k, h, _⟩ := h; rw [hH] at h; cases h), fun g n len k v h => (by obtain ⟨e, xs, h, _⟩ := h; rw [hH] at h; cases h)⟩
  have r1 : Rel (nwE E w1) nt B T H a w1 := by
    refine ⟨r.nt, r.df, fun s x hs => ?_, fun g bx h => (by rw [hH] at h; cases h), r.non, r.inj, ⟨rfl, rfl, rfl, Nat.le_refl _, fun k _ _ => rfl, Evo.refl _ _⟩, fun _ _ => rfl⟩
    obtain ⟨v, h1, h2⟩ := r.tmp s x hs
    exact ⟨v, h1, Rdv_go (Evo.ofExt ext) hU hp h2⟩
  exact r1.put (d := some d) (by simpa [dOk] using hd) (by rw [Rdv_v]; exact ⟨rfl, rfl⟩)
theorem AW_newmap {K : Type} (f : K → Value) {S : St} {Q : Exit → St → Prop} {id : Nat} {ops : Array Oper} {rest : Code} {t ty : TypeId} {pos : String} {af : Array Edge} (n d : Nat) (hn : n < ops.size) (hdn : d < nt) (hop : opAt ops n = ⟨some d, .makeMap t none, ty, pos, af, none⟩)
    (h : AWops P E nt ops (ops.toList.take n) S [] (fun S1 _ => S1.H = [] ∧ ∀ E2 b, (∀ k, ¬ E2.ent k) → b < E2.w0.heap.size →
      AWops P (E2.put b (mObj f [])) nt ops (ops.toList.drop (n + 1)) ⟨(d, .v (.map (some b))) :: S1.T, S1.H⟩ [] (fun S3 _ => AWM P E2 b nt rest (mObj f []) S3 (fun e _ S' => Q e S')))) : AW P E nt (.seq (.region id ops false) rest) S Q := fun B a w r => by
  refine wp_seq (wp_region ?_)
  have hl : (ops.toList.take n).length = n := by rw [List.length_take]; simp; omega
  have hl2 : (ops.toList.drop (n + 1)).length = ops.size - (n + 1) := by simp
  have er : List.range ops.size = List.range' 0 (ops.toList.take n).length ++ (n :: (List.range' (n + 1) (ops.toList.drop (n + 1)).length ++ [])) := by
    rw [hl, hl2, List.append_nil, List.range_eq_range', ← List.range'_succ]
    rw [show ops.size - (n + 1) + 1 = ops.size - n by omega]
    have := List.range'_append (s := 0) (m := n) (n := ops.size - n) (step := 1)
    rw [Nat.zero_add, Nat.one_mul] at this
    rw [this]
    congr 1; omega
  rw [er]
  refine wpOps_part (E := E) (nt := nt) (fun S1 rs hK B1 a1 w1 r1 => ?_) _ 0 S [] B a w (fun j hj => ?_) h r
  · obtain ⟨hH, hrest⟩ := hK
    have hH' : ∀ g, S1.h g = none := fun g => by show look g S1.H = none; rw [hH]; rfl
    have heb : ∀ g, E.eb g = none := fun g => r1.keep g (hH' g)
    have ho : ops[n]? = some (opAt ops n) := by simp [opAt, hn]
    simp only [wpOps, ho]
    rw [if_pos (by unfold Region.wanted; rw [hop])]
    left
    have hr : (execOp a1.eval (opAt ops n)).run P w1 = .ok (.value (.map (some w1.heap.size))) (w1.alloc (.map #[] 0)) := by
      rw [hop]; simp [execOp, run_makeMap]
    unfold Oper.wp
    rw [hr]
    have r2 := nwE_go (E := E) (w1 := w1.alloc (.map #[] 0)) hH' rfl hdn r1
    have hd' : (opAt ops n).dst = some d := by rw [hop]
    unfold Oper.upon
    rw [hd']
    have hrest' := hrest (nwE E (w1.alloc (.map #[] 0))) w1.heap.size (nwE_ent _ _) (by show w1.heap.size < (w1.alloc (.map #[] 0)).heap.size; rw [alloc_size]; omega)
    have et : St.t ⟨(d, .v (.map (some w1.heap.size))) :: S1.T, S1.H⟩ = upd S1.t d (.v (.map (some w1.heap.size))) := look_cons _ _ _
    refine wpOps_part (E := (nwE E (w1.alloc (.map #[] 0))).put w1.heap.size (mObj f [])) (nt := nt) (fun S3 rs hK B3 a3 w3 r3 => ?_) _ (n + 1) _ [] B1 _ _ (fun j hj => ?_) hrest' ?_
    · refine wp_mono (hK B3 a3 w3 r3) ?_
      rintro e a' w' ⟨o', B', S', r', hq⟩
      exact ⟨B', S', nwE_back r1.left heb rfl rfl r', hq⟩
    · rw [List.getElem?_drop]; simp
    · rw [et]; exact r2
  · rw [List.getElem?_take, if_pos (by omega)]; simp
end
end Go.Proofs.Ytphojngdgmnpaaa

namespace Go.Proofs.Ytphojngdgmnpaaa
open Go Go.RowKit
set_option linter.unusedVariables false
set_option linter.unusedSimpArgs false
set_option maxRecDepth 100000
set_option linter.unusedSectionVars false
theorem nodup_le : ∀ (n : Nat) (l : List Nat), l.Nodup → (∀ k ∈ l, k < n) → l.length ≤ n
  | 0, [], _, _ => Nat.le_refl _
  | 0, k :: l, _, h => absurd (h k (by simp)) (Nat.not_lt_zero _)
  | n + 1, l, hd, h => by
    have h1 := nodup_le n (l.erase n) (hd.erase n) fun k hk => by
      have h2 := (hd.mem_erase_iff).1 hk
      have h3 := h k h2.2
      have := h2.1
      omega
    rw [List.length_erase] at h1
    split at h1 <;> omega
theorem dOf_inn {o : List Nat} {i : Nat} (hi : i < 14) : dOf (inn o) i = decide (i ∈ o) := by unfold inn; rw [dOf_map hi]
theorem fmL_ok {l : List Cal} {R : List Bool → List Ent → List Ky → Rs} {d : List Bool} {m : List Ent}
    (hR : ∀ i T', i < l.length → dOf d i = false → (∀ k ∈ T', KyOk k) → ∀ k ∈ (R (d.set i true) (doC m (atC l i)).1 T').2, KyOk k) :
    ∀ (is : List Nat) (T : List Ky), (∀ i ∈ is, i < l.length) → (∀ k ∈ T, KyOk k) → ∀ k ∈ (fmL l R d m is T).2, KyOk k
  | [], T, _, hT => hT
  | i :: is, T, hi, hT => by
    have ih := fun T' h => fmL_ok hR is T' (fun i h => hi i (by simp [h])) h
    unfold fmL
    split
    · exact ih T hT
    · rename_i h1
      have hd : dOf d i = false := by cases h : dOf d i <;> simp_all
      split
      · have h2 := hR i T (hi i (by simp)) hd hT
        split
        · rename_i s T' he
          rw [he] at h2
          exact h2
        · rename_i T' he
          rw [he] at h2
          exact ih T' h2
      · exact ih T hT
theorem fmB_ok {l : List Cal} {R : List Bool → List Ent → List Ky → Rs} {o : List Nat} (hol : o.length ≤ 14) {m : List Ent} (hm : Lf m) (hml : m.length ≤ o.length)
    (hR : ∀ i m' T', i < l.length → dOf (inn o) i = false → Lf m' → m'.length ≤ o.length + 1 → (∀ k ∈ T', KyOk k) → ∀ k ∈ (R ((inn o).set i true) m' T').2, KyOk k)
    (T : List Ky) (hT : ∀ k ∈ T, KyOk k) : ∀ k ∈ (fmB l R (inn o) m T).2, KyOk k := by
  unfold fmB
  split
  · exact hT
  · split
    · exact hT
    · refine fmL_ok (fun i T' hi hd h => hR i _ T' hi hd (doC_lf hm _) (by have := doC_len m (atC l i); omega) h) _ _ (fun i hi => List.mem_range.1 hi) fun k hk => ?_
      rw [List.mem_append, List.mem_singleton] at hk
      rcases hk with hk | rfl
      · exact hT k hk
      · exact ⟨inn_len o, Nat.le_trans hml hol, hm.ok⟩
theorem m_from (l : List Cal) (hl : l.length ≤ 14) (b : Nat) : ∀ (f : Nat) (o : List Nat) (m : List Ent) (T : List Ky), o.Nodup → (∀ k ∈ o, k < l.length) → l.length ≤ o.length + f → Lf m → m.length ≤ o.length → (∀ k ∈ T, KyOk k) →
    (∀ k ∈ (fm l f (inn o) m T).2, KyOk k) ∧ MFn Try.prog 28 b (mObj keyV T) [searchA l b, ordA o, entsA m] (mObj keyV (fm l f (inn o) m T).2) (.tup [numsA (ordO o (fm l f (inn o) m T).1), boolA (fm l f (inn o) m T).1.isSome])
  | 0, o, m, T, hn, ho, hf, hm, hml, hT => by
    have hol := nodup_le _ o hn ho
    have hno : ∀ i, i < l.length → dOf (inn o) i = false → False := fun i hi hd => by
      rw [dOf_inn (by omega), decide_eq_false_iff_not] at hd
      have := nodup_le l.length (i :: o) (List.nodup_cons.2 ⟨hd, hn⟩) fun k hk => by
        rcases List.mem_cons.1 hk with rfl | hk
        · exact hi
        · exact ho k hk
      simp at this
      omega
    exact ⟨fmB_ok (by omega) hm hml (fun i m' T' hi hd => (hno i hi hd).elim) T hT,
      m_step l hl _ o (by omega) (fun k hk => by have := ho k hk; omega) m hm hml T hT b fun i m' T' hi hd => (hno i hi hd).elim⟩
  | f + 1, o, m, T, hn, ho, hf, hm, hml, hT => by
    have hol := nodup_le _ o hn ho
    have ih := fun i m' T' (hi : i < l.length) (hd : dOf (inn o) i = false) (hm' : Lf m') (hml' : m'.length ≤ o.length + 1) (hT' : ∀ k ∈ T', KyOk k) => by
      rw [dOf_inn (by omega), decide_eq_false_iff_not] at hd
      have := m_from l hl b f (o ++ [i]) m' T' (by
        rw [List.nodup_append]
        refine ⟨hn, by simp, fun a ha b hb => ?_⟩
        rw [List.mem_singleton] at hb
        subst hb
        rintro rfl
        exact hd ha) (fun k hk => by
          rw [List.mem_append, List.mem_singleton] at hk
          rcases hk with hk | rfl
          · exact ho k hk
          · exact hi) (by simp; omega) hm' (by simpa using hml') hT'
      rw [← inn_snoc (by omega)] at this
      exact this
    exact ⟨fmB_ok (by omega) hm hml (fun i m' T' hi hd h1 h2 h3 => (ih i m' T' hi hd h1 h2 h3).1) T hT,
      m_step l hl _ o (by omega) (fun k hk => by have := ho k hk; omega) m hm hml T hT b ih⟩
/-- the first order of calls -/
def findC (l : List Cal) : Option (List Nat) := if 14 < l.length then none else (fm l 14 (inn []) [] []).1
/-- who has an answer, as far as looked at -/
def mustTo (l : List Cal) (j : Nat) : List Bool := (List.range 14).map fun i => decide (i < j) && decide (0 ≤ (atC l i).to)
@[simp] theorem mustTo_len (l : List Cal) (j : Nat) : (mustTo l j).length = 14 := by simp [mustTo]
theorem mustTo_end (l : List Cal) : mustTo l l.length = mustOf l := rfl
theorem mustTo_zero (l : List Cal) : mustTo l 0 = List.replicate 14 false := rfl
theorem mustTo_snoc {l : List Cal} {j : Nat} (h : j < 14) : (mustTo l j).set j (decide (0 ≤ (atC l j).to)) = mustTo l (j + 1) := ext14 (by simp) (by simp) fun i hi => by
  have e2 : dOf (mustTo l (j + 1)) i = (decide (i < j + 1) && decide (0 ≤ (atC l i).to)) := by unfold mustTo; rw [dOf_map hi]
  have e1 : dOf (mustTo l j) i = (decide (i < j) && decide (0 ≤ (atC l i).to)) := by unfold mustTo; rw [dOf_map hi]
  rw [e2]
  by_cases c : j = i
  · subst c
    unfold dOf
    rw [List.getD_eq_getElem?_getD, List.getElem?_set_self (by simp; omega)]
    simp
  · have : dOf ((mustTo l j).set j (decide (0 ≤ (atC l j).to))) i = dOf (mustTo l j) i := by
      unfold dOf
      rw [List.getD_eq_getElem?_getD, List.getElem?_set_ne c, ← List.getD_eq_getElem?_getD]
    rw [this, e1]
    congr 1
    rw [decide_eq_decide]; omega
section
variable {E : Env} {nt : Nat} {ops : Array Oper} {T : Nat → Option AV} {H : Hp} {d : Option Nat} {ty : TypeId} {pos : String} {af : Array Edge} {gd : Option (Nat × Bool)}
theorem o_stmu {x y : Operand} {g off i : Nat} {dl : List Bool} {v : Bool} {a c : AV} (hx : evalO T x = some (.ptr g off [1, i])) (hoff : off = sizeA a + i * 1) (hy : evalO T y = some (.v (.bool v))) (hg : H g = some (.var (.agg 16 [a, barA dl, c]))) (hi : i < dl.length) (hs : tabT.sa 4 = some (false, 1)) :
    OpOK Try.prog E nt ops ⟨none, .store 4 x y, ty, pos, af, gd⟩ T H [] ⟨.tup [], [(g, .var (.agg 16 [a, barA (dl.set i v), c]))]⟩ := by
  refine ok_store tabT (d := none) rfl hx hy hg (old := boolA dl[i]) ?_ ?_ ?_ hs rfl rfl
  · simp [subA, barA, hi]
  · simp [offA, barA, sumS, hi, hoff, boolA]
  · simp [setA, barA, hi, dataA, boolA, List.map_set]
end
attribute [local irreducible] OpOK AWops AW CondB Go2 AFn thenA inBlockA noGotoA orderOk wantedA
attribute [local irreducible] AWM MFn
set_option maxRecDepth 100000 in
set_option maxHeartbeats 4000000 in
theorem a_find (l : List Cal) : AFn Try.prog 13 [calsA l] (.tup [numsA (ordO [] (findC l)), boolA (findC l).isSome]) := by
  by_cases h14 : 14 < l.length
  · have hf : findC l = none := by unfold findC; rw [if_pos h14]
    rw [hf]
    refine AFn_intro Try.func13 rfl Try.ntmps13 rfl (by simp) [_, _] rfl fun E hE => ?_
    refine wSS ?_
    exact fin ⟨res_nil rfl, res_of rfl rfl rfl, trivial⟩
  have hl : l.length ≤ 14 := by omega
  have hf : findC l = (fm l 14 (inn []) [] []).1 := by unfold findC; rw [if_neg h14]
  rw [hf]
  refine AFn_intro Try.func13 rfl Try.ntmps13 rfl (by simp) [_, _] rfl fun E hE => ?_
  have hnt : (!true) = false := rfl
  have hnf : (!false) = true := rfl
  repeat (first | refine AW_newmap (K := Ky) keyV 1 11 (by decide) (by decide) rfl ?_ | refine wSSo ?_)
  refine ⟨rfl, fun E2 b hE2 hlt => ?_⟩
  have hEp : ∀ (oo : Obj) (k : Nat), ¬ (E2.put b oo).ent k := fun _ k => hE2 k
  refine wSS ?_
  refine AWM_seqA ?_
  refine wSS ?_
  rw [← mustTo_zero l]
  refine AW_loopI (fun j : Nat => ⟨[(4, .ptr 13 0 []), (14, calsA l), (15, intA (l.length : Nat)), (16, intA (j : Nat))], [(13, .var (.agg 16 [calsA l, barA (mustTo l j), .v (.map (some b))]))]⟩) (fun j => j ≤ l.length) (fun j => l.length - j) 0 (Nat.zero_le _) (by (refine Go2.sub ⟨?_, ?_, ?_⟩ <;> repeat' (first | exact True.intro | rfl | apply And.intro))) (fun j hj => ?_)
  by_cases c : j < l.length
  · have hs := mustTo_snoc (l := l) (j := j) (by omega)
    rw [← atC_get c] at hs
    have hml := mustTo_len l j
    refine wSS ?_
    (apply Ws; (focus (exact o_stmu rfl (by show 0 + 1 + j * 1 = 1 + j * 1; omega) rfl rfl (by rw [hml]; omega) rfl)); (focus (first | exact want_n | exact want_g rfl (by with_reducible rfl))))
    refine wSS ?_
    refine ⟨j + 1, by omega, by omega, ?_⟩
    rw [← hs]
    (refine Go2.sub ⟨?_, ?_, ?_⟩ <;> repeat' (first | exact True.intro | rfl | apply And.intro))
  obtain rfl : j = l.length := by omega
  rw [mustTo_end]
  refine wSS ?_
  refine AWM_go (Go2.froz (hEp _) 13 rfl) ?_
  refine AWM_go (Go2.ref 4 13 rfl rfl rfl) ?_
  refine AWM_seq ?_
  refine AWM_regionCut (n := 1) (by decide) ?_
  refine wSS ?_
  have hm := (m_from l hl b 14 [] [] [] List.nodup_nil (by simp) (by simp; omega) lf_nil (by simp) (by simp)).2
  refine ⟨_, _, last_call rfl Try.func28 (by decide +kernel) (by decide +kernel) rfl (fun H' => by (repeat (first | exact wkl0 | refine wkd rfl ?_ | refine wkt ?_ | refine wkn ?_)); done) rfl hm hlt hE2 rfl rfl, ?_⟩
  refine wSS ?_
  dsimp only [thenM]
  refine AWM_ret ?_
  exact ⟨.inr rfl, res_sl rfl, res_of rfl rfl rfl, trivial⟩
set_option maxRecDepth 100000 in
set_option maxHeartbeats 4000000 in
theorem a_least (l : List Cal) : AFn Try.prog 15 [calsA l] (.tup [intA ((ordO [] (findC l)).length : Nat), boolA (findC l).isSome]) := by
  refine AFn_intro Try.func15 rfl Try.ntmps15 rfl (by simp) [_, _] rfl fun E hE => ?_
  have d1 := acall Try.func13 (a_find l) (by decide +kernel) (by decide +kernel)
  refine wSS ?_
  rw [show (numsA (ordO [] (findC l))) = .sl none 1 ((ordO [] (findC l)).map natA) from rfl]
  exact fin ⟨res_of rfl rfl rfl, res_of rfl rfl rfl, trivial⟩
end Go.Proofs.Ytphojngdgmnpaaa

namespace Go.Proofs.Ytphojngdgmnpaaa
open Go Go.RowKit
set_option linter.unusedVariables false
set_option linter.unusedSimpArgs false
set_option maxRecDepth 100000
set_option linter.unusedSectionVars false
/-- from here on, with those of pre done -/
def legGo (l : List Cal) : List Ent → List Int → List Int → Bool
  | m, pre, [] => whl l fun k => decide ((k : Int) ∈ pre)
  | m, pre, i :: is => if i < 0 ∨ (l.length : Int) ≤ i ∨ i ∈ pre ∨ rdy l i.toNat (fun k => decide ((k : Int) ∈ pre)) = false then false else if (doC m (atC l i.toNat)).2 then legGo l (doC m (atC l i.toNat)).1 (pre ++ [i]) is else false
def legC (l : List Cal) (o : List Int) : Bool := legGo l [] [] o
attribute [local irreducible] OpOK AWops AW CondB Go2 AFn thenA inBlockA noGotoA orderOk wantedA
set_option maxRecDepth 100000 in
set_option maxHeartbeats 4000000 in
theorem a_legal1 (o : List Int) (at_ : Nat) (hat : at_ ≤ o.length) (ho : o.length ≤ 1000000000) (x : Int) : AFn Try.prog 30 [intA x, .ref (intsA o), .ref (intA (at_ : Nat))] (boolA (decide (x ∈ o.take at_))) := by
  refine AFn_intro Try.func30 rfl Try.ntmps30 rfl (by simp) [_] rfl fun E hE => ?_
  have hc := a_contains (o.take at_) x (by rw [List.length_take]; omega)
  have d1 := acall Try.func31 (hc) (by decide +kernel) (by decide +kernel)
  refine wSS ?_
  exact fin ⟨res_of rfl rfl rfl, trivial⟩
set_option maxRecDepth 100000 in
set_option maxHeartbeats 4000000 in
theorem a_legal2 (o : List Int) (ho : o.length ≤ 1000000000) (x : Int) : AFn Try.prog 35 [intA x, .ref (intsA o)] (boolA (decide (x ∈ o))) := by
  refine AFn_intro Try.func35 rfl Try.ntmps35 rfl (by simp) [_] rfl fun E hE => ?_
  have hc := a_contains o x ho
  have d1 := acall Try.func31 (hc) (by decide +kernel) (by decide +kernel)
  refine wSS ?_
  exact fin ⟨res_of rfl rfl rfl, trivial⟩
theorem legGo_drop {l : List Cal} {o : List Int} {m : List Ent} {j : Nat} (h : j < o.length) : legGo l m (o.take j) (o.drop j) = if o[j] < 0 ∨ (l.length : Int) ≤ o[j] ∨ o[j] ∈ o.take j ∨ rdy l o[j].toNat (fun k => decide ((k : Int) ∈ o.take j)) = false then false else if (doC m (atC l o[j].toNat)).2 then legGo l (doC m (atC l o[j].toNat)).1 (o.take (j + 1)) (o.drop (j + 1)) else false := by
  rw [List.drop_eq_getElem_cons h, List.take_succ_eq_append_getElem h]; rfl
set_option maxRecDepth 100000 in
set_option maxHeartbeats 4000000 in
theorem a_legal (l : List Cal) (o : List Int) (hl : l.length ≤ 1000000000) (ho : o.length ≤ 900000000) : AFn Try.prog 18 [calsA l, intsA o] (boolA (legC l o)) := by
  refine AFn_intro Try.func18 rfl Try.ntmps18 rfl (by simp) [_] rfl fun E hE => ?_
  have hnt : (!true) = false := rfl
  have hnf : (!false) = true := rfl
  repeat refine wSSo ?_
  refine AW_go (Go2.froz hE 3 rfl) ?_
  refine AW_go (Go2.ref 3 3 rfl rfl rfl) ?_
  refine AW_go (Go2.nil 5 26 rfl) ?_
  refine AW_loopI (fun x : Nat × List Ent => ⟨[(0, calsA l), (3, .ref (intsA o)), (5, entsA x.2), (10, intsA o), (11, intA (o.length : Nat)), (12, intA (x.1 : Nat))], []⟩) (fun x => x.1 ≤ o.length ∧ Lf x.2 ∧ x.2.length ≤ x.1 ∧ legGo l x.2 (o.take x.1) (o.drop x.1) = legC l o) (fun x => o.length - x.1) (0, []) ⟨Nat.zero_le _, lf_nil, Nat.le_refl _, rfl⟩ (by (refine Go2.sub ⟨?_, ?_, ?_⟩ <;> repeat' (first | exact True.intro | rfl | apply And.intro))) (fun x hx => ?_)
  obtain ⟨j, m⟩ := x
  obtain ⟨hj, hm, hml, hF⟩ := hx
  dsimp only at hj hm hml hF ⊢
  by_cases c : j < o.length
  · rw [legGo_drop c] at hF
    iterate 20 refine wSSo ?_
    refine Wend _ ?_
    refine thenA_n ?_
    refine AW_go (Go2.froz hE 6 rfl) ?_
    refine AW_go (Go2.ref 6 6 rfl rfl rfl) ?_
    refine AW_go (S' := ⟨[(7, intA o[j]), (6, .ref (intA (j : Nat))), (0, calsA l), (3, .ref (intsA o)), (5, entsA m), (10, intsA o), (11, intA (o.length : Nat)), (12, intA (j : Nat))], []⟩) (by (refine Go2.sub ⟨?_, ?_, ?_⟩ <;> repeat' (first | exact True.intro | rfl | apply And.intro))) ?_
    have hlen : j + 1 ≤ o.length := c
    generalize o[j] = x at hF ⊢
    by_cases c1 : x < 0
    · rw [if_pos (.inl c1)] at hF
      rw [← hF]; clear hF
      refine wSS ?_
      exact fin ⟨res_of rfl rfl rfl, trivial⟩
    by_cases c2 : (l.length : Int) ≤ x
    · rw [if_pos (.inr (.inl c2))] at hF
      rw [← hF]; clear hF
      refine wSS ?_
      exact fin ⟨res_of rfl rfl rfl, trivial⟩
    have cx := a_legal1 o j hj (by omega) x
    by_cases c3 : x ∈ o.take j
    · rw [if_pos (.inr (.inr (.inl c3)))] at hF
      rw [← hF]; clear hF
      rw [decide_eq_true c3] at cx
      have d1 := acall Try.func30 (cx) (by decide +kernel) (by decide +kernel)
      refine wSS ?_
      exact fin ⟨res_of rfl rfl rfl, trivial⟩
    rw [decide_eq_false c3] at cx
    have d1 := acall Try.func30 (cx) (by decide +kernel) (by decide +kernel)
    obtain ⟨i, rfl⟩ : ∃ i : Nat, x = (i : Int) := ⟨x.toNat, by omega⟩
    have hi : i < l.length := by omega
    rw [Int.toNat_natCast, ← atC_get hi] at hF
    have cf := fun (k : Nat) (hk : k < l.length) => acall Try.func30 (a_legal1 o j hj (by omega) (k : Int)) (by decide +kernel) (by decide +kernel)
    have cr := a_ready2 l hl i hi (fun k => decide ((k : Int) ∈ o.take j)) 30 (intsA o) (intA (j : Nat)) cf
    cases hr : rdy l i (fun k => decide ((k : Int) ∈ o.take j))
    · rw [if_pos (.inr (.inr (.inr hr)))] at hF
      rw [← hF]; clear hF
      rw [hr] at cr
      have d2 := acall Try.func32 (cr) (by decide +kernel) (by decide +kernel)
      refine wSS ?_
      exact fin ⟨res_of rfl rfl rfl, trivial⟩
    rw [hr] at cr
    rw [if_neg (by rw [hr]; simp [c1, c2, c3])] at hF
    have d2 := acall Try.func32 (cr) (by decide +kernel) (by decide +kernel)
    have cd := a_do m l[i] hm (by omega)
    have hlf := doC_lf hm l[i]
    have hln := doC_len m l[i]
    rcases hdo : doC m l[i] with ⟨m2, ok⟩
    rw [hdo] at cd hlf hln hF
    dsimp only at cd hlf hln hF
    have d3 := acall Try.func33 (cd) (by decide +kernel) (by decide +kernel)
    cases ok
    · rw [if_neg (by simp)] at hF
      rw [← hF]; clear hF
      refine wSS ?_
      exact fin ⟨res_of rfl rfl rfl, trivial⟩
    rw [if_pos rfl] at hF
    refine wSS ?_
    refine ⟨(j + 1, m2), ⟨hlen, hlf, by show m2.length ≤ j + 1; omega, hF⟩, by show o.length - (j + 1) < o.length - j; omega, ?_⟩
    (refine Go2.sub ⟨?_, ?_, ?_⟩ <;> repeat' (first | exact True.intro | rfl | apply And.intro))
  · obtain rfl : j = o.length := by omega
    rw [List.take_length, List.drop_length] at hF
    have cf := fun (k : Nat) (hk : k < l.length) => acall Try.func35 (a_legal2 o (by omega) (k : Int)) (by decide +kernel) (by decide +kernel)
    have cw := a_whole l hl (fun k => decide ((k : Int) ∈ o)) 35 (intsA o) cf
    have hF2 : whl l (fun k => decide ((k : Int) ∈ o)) = legC l o := hF
    rw [hF2] at cw
    have d1 := acall Try.func34 (cw) (by decide +kernel) (by decide +kernel)
    refine wSS ?_
    exact fin ⟨res_of rfl rfl rfl, trivial⟩
end Go.Proofs.Ytphojngdgmnpaaa

namespace Go.Proofs.Ytphojngdgmnpaaa
open Go Go.RowKit
set_option linter.unusedVariables false
set_option linter.unusedSimpArgs false
set_option maxRecDepth 100000
set_option linter.unusedSectionVars false
def boolsA (d : List Bool) : AV := .sl none 1 (d.map boolA)
theorem dOf_get {d : List Bool} {k : Nat} (h : k < d.length) : d[k] = dOf d k := by unfold dOf; rw [List.getD_eq_getElem?_getD, List.getElem?_eq_getElem h]; rfl
attribute [local irreducible] OpOK AWops AW CondB Go2 AFn thenA inBlockA noGotoA orderOk wantedA
set_option maxRecDepth 100000 in
set_option maxHeartbeats 4000000 in
theorem a_refbefore (c d : Cal) : AFn Try.prog 52 [c.av, d.av] (boolA (before c d)) := by
  obtain ⟨c1, c2, c3, c4, c5, c6⟩ := c
  obtain ⟨d1, d2, d3, d4, d5, d6⟩ := d
  unfold before
  dsimp only
  by_cases h : 0 ≤ c5
  · rw [decide_eq_true h, Bool.true_and]
    refine AFn_intro Try.func52 rfl Try.ntmps52 rfl (by simp) [_] rfl fun E hE => ?_; have hnt : (!true) = false := rfl; have hnf : (!false) = true := rfl
    refine wW ?_
    exact fin ⟨res_of rfl rfl rfl, trivial⟩
  · rw [decide_eq_false h, Bool.false_and]
    refine AFn_intro Try.func52 rfl Try.ntmps52 rfl (by simp) [_] rfl fun E hE => ?_; have hnt : (!true) = false := rfl; have hnf : (!false) = true := rfl
    refine wW ?_
    exact fin ⟨res_of rfl rfl rfl, trivial⟩
def failC (c : Cal) : Bool := decide (0 ≤ c.to) && (decide (c.ans.code = 3) || decide (c.ans.code = 2))
set_option maxRecDepth 100000 in
set_option maxHeartbeats 4000000 in
theorem a_reffailed (c : Cal) : AFn Try.prog 53 [c.av] (boolA (failC c)) := by
  obtain ⟨c1, c2, c3, c4, c5, ⟨a0, af, av⟩⟩ := c
  unfold failC
  dsimp only
  by_cases h : 0 ≤ c5
  · rw [decide_eq_true h, Bool.true_and]
    by_cases h3 : a0 = 3
    · rw [decide_eq_true h3, Bool.true_or]
      refine AFn_intro Try.func53 rfl Try.ntmps53 rfl (by simp) [_] rfl fun E hE => ?_; have hnt : (!true) = false := rfl; have hnf : (!false) = true := rfl
      refine wW ?_
      exact fin ⟨res_of rfl rfl rfl, trivial⟩
    · rw [decide_eq_false h3, Bool.false_or]
      refine AFn_intro Try.func53 rfl Try.ntmps53 rfl (by simp) [_] rfl fun E hE => ?_; have hnt : (!true) = false := rfl; have hnf : (!false) = true := rfl
      refine wW ?_
      exact fin ⟨res_of rfl rfl rfl, trivial⟩
  · rw [decide_eq_false h, Bool.false_and]
    refine AFn_intro Try.func53 rfl Try.ntmps53 rfl (by simp) [_] rfl fun E hE => ?_; have hnt : (!true) = false := rfl; have hnf : (!false) = true := rfl
    refine wW ?_
    exact fin ⟨res_of rfl rfl rfl, trivial⟩
set_option maxRecDepth 100000 in
set_option maxHeartbeats 4000000 in
theorem a_refstep (m : List Ent) (c : Cal) (h : Lf m) (hl : m.length ≤ 1000000000) : AFn Try.prog 37 [entsA m, c.av] (.tup [entsA (doC m c).1, boolA (doC m c).2]) := by
  have cf := a_reffailed c
  obtain ⟨c1, c2, o, c4, c5, a⟩ := c
  have cm := a_refdo m o h hl
  have cl := a_ref23large o
  unfold doC
  unfold failC at cf
  dsimp only at cf ⊢
  generalize hM : mdDo m o = R at *
  obtain ⟨m2, a2⟩ := R
  dsimp only at cm ⊢
  have hnt : (!true) = false := rfl
  have hnf : (!false) = true := rfl
  by_cases h1 : c5 < 0
  · rw [if_pos h1]
    rw [decide_eq_false (by omega), Bool.false_and] at cf
    refine AFn_intro Try.func37 rfl Try.ntmps37 rfl (by simp) [_, _] rfl fun E hE => ?_
    have d1 := acall Try.func39 (cm) (by decide +kernel) (by decide +kernel)
    have d2 := acall Try.func53 (cf) (by decide +kernel) (by decide +kernel)
    refine wW ?_
    exact fin ⟨res_sl rfl, res_of rfl rfl rfl, trivial⟩
  rw [if_neg h1]
  rw [decide_eq_true (by omega), Bool.true_and] at cf
  obtain ⟨a0, af, av⟩ := a
  dsimp only at *
  by_cases h2 : a0 = 3
  · rw [if_pos h2]
    rw [decide_eq_true h2, Bool.true_or] at cf
    refine AFn_intro Try.func37 rfl Try.ntmps37 rfl (by simp) [_, _] rfl fun E hE => ?_
    have d2 := acall Try.func53 (cf) (by decide +kernel) (by decide +kernel)
    refine wW ?_
    exact fin ⟨res_sl rfl, res_of rfl rfl rfl, trivial⟩
  rw [if_neg h2]
  rw [decide_eq_false h2, Bool.false_or] at cf
  by_cases h3 : a0 = 2
  · rw [if_pos h3]
    rw [decide_eq_true h3] at cf
    refine AFn_intro Try.func37 rfl Try.ntmps37 rfl (by simp) [_, _] rfl fun E hE => ?_
    have d2 := acall Try.func53 (cf) (by decide +kernel) (by decide +kernel)
    have d3 := acall Try.func27 (cl) (by decide +kernel) (by decide +kernel)
    refine wW ?_
    exact fin ⟨res_sl rfl, res_of rfl rfl rfl, trivial⟩
  rw [if_neg h3]
  rw [decide_eq_false h3] at cf
  refine AFn_intro Try.func37 rfl Try.ntmps37 rfl (by simp) [_, _] rfl fun E hE => ?_
  have d1 := acall Try.func39 (cm) (by decide +kernel) (by decide +kernel)
  have d2 := acall Try.func53 (cf) (by decide +kernel) (by decide +kernel)
  refine wW ?_
  exact fin ⟨res_sl rfl, res_of rfl rfl rfl, trivial⟩
set_option maxRecDepth 100000 in
set_option maxHeartbeats 4000000 in
theorem a_refover (l : List Cal) (hl : l.length ≤ 1000000000) (d : List Bool) (hd : d.length = l.length) : AFn Try.prog 38 [calsA l, boolsA d] (boolA (whl l (dOf d))) := by
  refine AFn_intro Try.func38 rfl Try.ntmps38 rfl (by simp) [_] rfl fun E hE => ?_; have hnt : (!true) = false := rfl; have hnf : (!false) = true := rfl
  refine wW ?_
  refine AW_loopI (fun j : Nat => ⟨[(0, calsA l), (1, boolsA d), (5, intA (j : Nat))], []⟩) (fun j => j ≤ l.length ∧ ∀ k, k < j → whlAt l (dOf d) k = true) (fun j => l.length - j) 0 ⟨Nat.zero_le _, fun k hk => absurd hk (Nat.not_lt_zero _)⟩ (by (refine Go2.sub ⟨?_, ?_, ?_⟩ <;> repeat' (first | exact True.intro | rfl | apply And.intro))) (fun j hj => ?_)
  obtain ⟨hj, ha⟩ := hj
  have hb : ∀ j, j < l.length → (whlAt l (dOf d) j = true → ∀ k, k < j + 1 → (∀ k, k < j → whlAt l (dOf d) k = true) → whlAt l (dOf d) k = true) := fun j _ h k hk ha => by
    rcases Nat.lt_or_ge k j with h1 | h1
    · exact ha k h1
    · rw [show k = j by omega]; exact h
  by_cases c : j < l.length
  · have e1 := atC_get c
    have hjd : j < d.length := by omega
    have ed := dOf_get hjd
    by_cases h1 : 0 ≤ l[j].to
    · cases hd : d[j]
      · have g2 : (!d[j]) = true := by rw [hd]; rfl
        have hr : whl l (dOf d) = false := by unfold whl; refine all_not c ?_; unfold whlAt; rw [← e1, ← ed, hd, decide_eq_false (by omega)]; rfl
        rw [hr]
        refine wW ?_
        exact fin ⟨res_of rfl rfl rfl, trivial⟩
      · have g2 : (!d[j]) = false := by rw [hd]; rfl
        have hr : whlAt l (dOf d) j = true := by unfold whlAt; rw [← ed, hd]; simp
        refine wW ?_
        refine ⟨j + 1, ⟨c, fun k hk => hb j c hr k hk ha⟩, by omega, ?_⟩
        (refine Go2.sub ⟨?_, ?_, ?_⟩ <;> repeat' (first | exact True.intro | rfl | apply And.intro))
    · have hr : whlAt l (dOf d) j = true := by unfold whlAt; rw [← e1, decide_eq_true (by omega)]; rfl
      refine wW ?_
      refine ⟨j + 1, ⟨c, fun k hk => hb j c hr k hk ha⟩, by omega, ?_⟩
      (refine Go2.sub ⟨?_, ?_, ?_⟩ <;> repeat' (first | exact True.intro | rfl | apply And.intro))
  · have hr : whl l (dOf d) = true := all_upto fun k hk => ha k (by omega)
    rw [hr]
    refine wW ?_
    exact fin ⟨res_of rfl rfl rfl, trivial⟩
set_option maxRecDepth 100000 in
set_option maxHeartbeats 4000000 in
theorem a_reffree (l : List Cal) (hl : l.length ≤ 1000000000) (d : List Bool) (hd : d.length = l.length) (i : Nat) (hi : i < l.length) : AFn Try.prog 36 [calsA l, boolsA d, intA (i : Nat)] (boolA (!dOf d i && rdy l i (dOf d))) := by
  have hid : i < d.length := by omega
  have edi := dOf_get hid
  cases hdi : dOf d i
  case true =>
    rw [hdi] at edi
    rw [show (!true && rdy l i (dOf d)) = false from rfl]
    refine AFn_intro Try.func36 rfl Try.ntmps36 rfl (by simp) [_] rfl fun E hE => ?_; have hnt : (!true) = false := rfl; have hnf : (!false) = true := rfl
    refine wW ?_
    exact fin ⟨res_of rfl rfl rfl, trivial⟩
  case false =>
    rw [hdi] at edi
    rw [show (!false && rdy l i (dOf d)) = rdy l i (dOf d) from rfl]
    refine AFn_intro Try.func36 rfl Try.ntmps36 rfl (by simp) [_] rfl fun E hE => ?_; have hnt : (!true) = false := rfl; have hnf : (!false) = true := rfl
    refine wW ?_
    refine AW_loopI (fun j : Nat => ⟨[(0, calsA l), (1, boolsA d), (2, intA (i : Nat)), (7, intA (j : Nat))], []⟩) (fun j => j ≤ l.length ∧ ∀ k, k < j → rdyAt l i (dOf d) k = true) (fun j => l.length - j) 0 ⟨Nat.zero_le _, fun k hk => absurd hk (Nat.not_lt_zero _)⟩ (by (refine Go2.sub ⟨?_, ?_, ?_⟩ <;> repeat' (first | exact True.intro | rfl | apply And.intro))) (fun j hj => ?_)
    obtain ⟨hj, ha⟩ := hj
    have hb : ∀ j, j < l.length → (rdyAt l i (dOf d) j = true → ∀ k, k < j + 1 → (∀ k, k < j → rdyAt l i (dOf d) k = true) → rdyAt l i (dOf d) k = true) := fun j _ h k hk ha => by
      rcases Nat.lt_or_ge k j with h1 | h1
      · exact ha k h1
      · rw [show k = j by omega]; exact h
    by_cases c : j < l.length
    · have cb := a_refbefore l[j] l[i]
      have e1 := atC_get c
      have e2 := atC_get hi
      have hjd : j < d.length := by omega
      have ed := dOf_get hjd
      by_cases h1 : j = i
      · have hr : rdyAt l i (dOf d) j = true := by unfold rdyAt; rw [decide_eq_true h1]; rfl
        have g1 : ¬ ((j : Nat) : Int) ≠ (i : Nat) := by omega
        refine wW ?_
        refine ⟨j + 1, ⟨c, fun k hk => hb j c hr k hk ha⟩, by omega, ?_⟩
        (refine Go2.sub ⟨?_, ?_, ?_⟩ <;> repeat' (first | exact True.intro | rfl | apply And.intro))
      · have g1 : ((j : Nat) : Int) ≠ (i : Nat) := by omega
        cases hdj : d[j]
        case true =>
          have g2 : (!d[j]) = false := by rw [hdj]; rfl
          have hr : rdyAt l i (dOf d) j = true := by unfold rdyAt; rw [← ed, hdj]; simp
          refine wW ?_
          refine ⟨j + 1, ⟨c, fun k hk => hb j c hr k hk ha⟩, by omega, ?_⟩
          (refine Go2.sub ⟨?_, ?_, ?_⟩ <;> repeat' (first | exact True.intro | rfl | apply And.intro))
        case false =>
          have g2 : (!d[j]) = true := by rw [hdj]; rfl
          cases hbf : before l[j] l[i]
          · rw [hbf] at cb
            have hr : rdyAt l i (dOf d) j = true := by unfold rdyAt; rw [← e1, ← e2, hbf]; simp
            have cb1 := acall Try.func52 (cb) (by decide +kernel) (by decide +kernel)
            refine wW ?_
            refine ⟨j + 1, ⟨c, fun k hk => hb j c hr k hk ha⟩, by omega, ?_⟩
            (refine Go2.sub ⟨?_, ?_, ?_⟩ <;> repeat' (first | exact True.intro | rfl | apply And.intro))
          · rw [hbf] at cb
            have hr : rdy l i (dOf d) = false := by unfold rdy; refine all_not c ?_; unfold rdyAt; rw [← e1, ← e2, ← ed, hbf, hdj, decide_eq_false h1]; rfl
            rw [hr]
            have cb1 := acall Try.func52 (cb) (by decide +kernel) (by decide +kernel)
            refine wW ?_
            exact fin ⟨res_of rfl rfl rfl, trivial⟩
    · have hr : rdy l i (dOf d) = true := all_upto fun k hk => ha k (by omega)
      rw [hr]
      refine wW ?_
      exact fin ⟨res_of rfl rfl rfl, trivial⟩
end Go.Proofs.Ytphojngdgmnpaaa

namespace Go.Proofs.Ytphojngdgmnpaaa
open Go Go.RowKit
set_option linter.unusedVariables false
set_option linter.unusedSimpArgs false
set_option maxRecDepth 100000
set_option linter.unusedSectionVars false
theorem Go2.tokenX {E : Env} {nt : Nat} {T : List (Nat × AV)} {H : List (Nat × Bx)} (b g n : Nat) (e : TypeId) {x0 y0 : AV} (hs : look b H = some (.var x0)) (hg : look g H = none) (himp : ∀ U w B H' cs, H' g = some (.tail e (n + 1) 0) → B g = none → Rd U w x0 B H' cs → Rd U w y0 B H' cs) : Go2 E nt ⟨T, H⟩ ⟨T, (b, .var y0) :: (g, .tail e (n + 1) 0) :: H⟩ := fun B a w r => by
  have r1 := r.token (g := g) (n := n + 1) (e := e) hg (Nat.succ_pos n)
  have hbg : b ≠ g := fun e => by subst e; rw [hg] at hs; cases hs
  have eH : St.h ⟨T, (b, Bx.var y0) :: (g, .tail e (n + 1) 0) :: H⟩ = upd (upd (St.h ⟨T, H⟩) g (.tail e (n + 1) 0)) b (.var y0) := by
    show (fun k => look k ((b, Bx.var y0) :: (g, .tail e (n + 1) 0) :: H)) = _
    rw [look_cons, look_cons]
    rfl
  refine ⟨B, ?_⟩
  rw [eH]
  generalize hH : upd (St.h ⟨T, H⟩) g (.tail e (n + 1) 0) = H1 at r1 ⊢
  have h1b : H1 b = some (.var x0) := by rw [← hH, upd_ne _ _ hbg]; exact hs
  have h1g : H1 g = some (.tail e (n + 1) 0) := by rw [← hH]; exact upd_same _ _ _
  have hBg : B g = none := r.non g hg
  have hsh : ∀ j, isVar (upd H1 b (.var y0) j) = isVar (H1 j) ∧ live (upd H1 b (.var y0) j) = live (H1 j) := fun j => by
    by_cases c : j = b
    · subst c; rw [upd_same, h1b]; exact ⟨rfl, rfl⟩
    · rw [upd_ne _ _ c]; exact ⟨rfl, rfl⟩
  have hun : unst E B (upd H1 b (.var y0)) = unst E B H1 := by
    funext k o
    refine propext (or_congr Iff.rfl (exists_congr fun j => and_congr_right fun _ => ?_))
    by_cases c : j = b
    · subst c; rw [upd_same, h1b]
    · rw [upd_ne _ _ c]
  have pic : Pic w w B B H1 (upd H1 b (.var y0)) := by
    refine ⟨fun _ _ _ h => h, fun j h => (hsh j).1.trans h, fun t n len A cap h => ?_, ownPic (Evo.refl (fun _ _ => False) w) fun j e' n' xs h => ?_⟩
    · obtain ⟨e', k, h1, h2⟩ := h
      refine ⟨e', k, ?_, h2⟩
      rw [upd_ne]
      · exact h1
      · rintro rfl; rw [h1b] at h1; cases h1
    · refine ⟨?_, rfl⟩
      rw [upd_ne]
      · exact h
      · rintro rfl; rw [h1b] at h; cases h
  have rd : ∀ (x : AV) {c : List Value}, Rd (unst E B H1) w x B H1 c → Rd (unst E B (upd H1 b (.var y0))) w x B (upd H1 b (.var y0)) c := fun x c h => by
    rw [hun]; exact Rd_go (Evo.refl _ w) (fun _ _ _ h => h) x pic h
  refine ⟨r1.nt, r1.df, fun s x hx => ?_, fun j bx h => ?_, fun j h => ?_, fun j1 j2 k h1 h2 => ?_, r1.left, fun j h => ?_⟩
  · obtain ⟨v, k1, k2⟩ := r1.tmp s x hx
    exact ⟨v, k1, by rw [hun]; exact Rdv_go (Evo.refl _ w) (fun _ _ _ h => h) pic k2⟩
  · by_cases c : j = b
    · subst c
      rw [upd_same] at h
      injection h with h
      subst h
      obtain ⟨k, cs, t, k1, k2, k3, k4⟩ := r1.box j _ h1b
      refine ⟨k, cs, t, k1, k2, ?_, k4⟩
      exact himp _ _ _ _ _ (by rw [upd_ne _ _ (Ne.symm hbg)]; exact h1g) hBg (rd x0 k3)
    · rw [upd_ne _ _ c] at h
      have hb := r1.box j bx h
      cases bx with
      | var x =>
        obtain ⟨k, cs, t, k1, k2, k3, k4⟩ := hb
        exact ⟨k, cs, t, k1, k2, rd x k3, k4⟩
      | froz x =>
        obtain ⟨k, cs, k1, k2, k3, k4⟩ := hb
        exact ⟨k, cs, k1, k2, by rw [hun]; exact k3, rd x k4⟩
      | tail e n k => exact hb
      | own e' n' xs =>
        refine ⟨hb.1, hb.2.1, hb.2.2.imp id ?_⟩
        rintro ⟨k, cur, cap, c, m1, m2, m3, m4, m5, m6, m7, m8⟩
        exact ⟨k, cur, cap, c, m1, m2, m3, m4, m5, m6, by rw [hun]; exact m7, m8⟩
  · by_cases c : j = b
    · subst c; rw [upd_same] at h; cases h
    · rw [upd_ne _ _ c] at h; exact r1.non j h
  · rw [(hsh j1).2] at h1
    rw [(hsh j2).2] at h2
    exact r1.inj j1 j2 k h1 h2
  · by_cases c : j = b
    · subst c; rw [upd_same] at h; cases h
    · rw [upd_ne _ _ c] at h; exact r1.keep j h

/-! ### own rows handed to one that only reads -/
inductive OwL (H : Hp) : List AV → List AV → Prop
  | nil : OwL H [] []
  | own {g n k : Nat} {e : TypeId} {xs l l' : List AV} (h : H g = some (.own e n xs)) (hk : k = xs.length) (t : OwL H l l') : OwL H (.own g n k .row :: l) (.sl none n xs :: l')
  | wk {x y : AV} {l l' : List AV} (h : Wk H x y) (t : OwL H l l') : OwL H (x :: l) (y :: l')
def offOwn (U : Uns) (B : Blk) (H : Hp) : Uns := fun b o => U b o ∧ ¬ ∃ g e n xs, H g = some (.own e n xs) ∧ B g = some b
section
variable {P : Program} {E : Env} {nt : Nat} {ops : Array Oper} {T : Nat → Option AV} {H : Hp} {d : Option Nat} {ty : TypeId} {pos : String} {af : Array Edge} {gd : Option (Nat × Bool)}
theorem OwL.rdp {B : Blk} {a : Act} {w : World} (r : Rel E nt B T H a w) {xs ys : List AV} (h : OwL H xs ys) {vs : List Value} (hr : Rdp (unst E B H) w xs B H vs) : Rdp (offOwn (unst E B H) B H) w ys B0 H0 vs := by
  have mono : ∀ (x : AV) {c : List Value}, Rd (unst E B H) w x B0 H0 c → Rd (offOwn (unst E B H) B H) w x B0 H0 c := fun x c h => Rd_go (Evo.refl _ w) (fun b o _ h => h.1) x (Pic.refl0 w w) h
  induction h generalizing vs with
  | nil => simpa [Rdp] using hr
  | wk hx _ ih =>
    simp only [Rdp] at hr ⊢
    obtain ⟨c, vs', e, k1, k2⟩ := hr
    obtain ⟨k3, k4⟩ := hx _ _ _ _ k1
    exact ⟨c, vs', by rw [e, k4], mono _ k3, ih k2⟩
  | @own g n k e zs l l' hg hk _ ih =>
    simp only [Rdp] at hr ⊢
    obtain ⟨c, vs', e1, k1, k2⟩ := hr
    refine ⟨c, vs', ?_, ?_, ih k2⟩
    · rw [e1]; simp only [Rd] at k1; obtain ⟨v, _, rfl⟩ := k1; rfl
    · simp only [Rd] at k1
      obtain ⟨v, ⟨e', xs', m1, m2, m3, m4⟩, rfl⟩ := k1
      rw [hg] at m1
      injection m1 with m1
      injection m1 with m1a m1b m1c
      subst m1a m1c
      obtain ⟨q1, q2⟩ := m4 hk
      obtain ⟨p0, _, p1⟩ := r.box g _ hg
      simp only [Rd]
      rcases p1 with ⟨p1, p2⟩ | ⟨b, cur, cap, cc, p1, p2, p3, p4, p5, p6, p7, p8⟩
      · refine ⟨none, 0, by rw [q1 p1, p2]; rfl, by rw [p2]; exact Nat.le_refl _, Nat.zero_le _, fun h => absurd h (by rw [p2]; simp), fun t ht => by cases ht⟩
      · obtain ⟨cur', s1, cap', s2, s3, s4, s5⟩ := q2 b p1
        rw [p2] at s1
        injection s1 with s1
        injection s1 with s1
        subst s1
        have hcl : cc.length = zs.length * n := Rdu_len p7
        refine ⟨some ⟨b, 0, none⟩, cap', by rw [s2, hk], by omega, s4, fun h0 => ⟨b, 0, cc, rfl, ?_, fun o h1 h2 h3 => h3.2 ⟨g, e, n, zs, hg, p1⟩, ?_⟩, fun t ht => by cases ht⟩
        · rw [row_block p2]
          unfold rowOf
          have hsz : zs.length * n ≤ cur.size := by rw [p3]; exact Nat.mul_le_mul_right n p4
          rw [if_pos (by omega)]
          congr 1
          apply Array.ext_getElem?
          intro q
          rw [Array.getElem?_extract]
          by_cases hq : q < zs.length * n
          · rw [if_pos (by omega), Nat.zero_add, p6 q hq]; simp
          · rw [if_neg (by omega)]
            rw [Array.getElem?_eq_none (by simp; omega)]
        · exact Rdu_go (Evo.refl _ w) (fun b o _ h => h.1) n zs (Pic.refl0 w w) p7
end
section
variable {E : Env} {nt : Nat} {ops : Array Oper} {T : Nat → Option AV} {H : Hp} {d : Option Nat} {ty : TypeId} {pos : String} {af : Array Edge} {gd : Option (Nat × Bool)}
end
end Go.Proofs.Ytphojngdgmnpaaa

namespace Go.Proofs.Ytphojngdgmnpaaa
open Go Go.RowKit
set_option linter.unusedVariables false
set_option linter.unusedSimpArgs false
set_option maxRecDepth 100000
set_option linter.unusedSectionVars false
def msk : List Bool → Nat
  | [] => 0
  | b :: d => (if b then 1 else 0) + 2 * msk d
theorem msk_cons (b : Bool) (d : List Bool) : msk (b :: d) = (if b then 1 else 0) + 2 * msk d := rfl
theorem msk_bit : ∀ (d : List Bool) (k : Nat), (msk d).testBit k = dOf d k
  | [], k => by simp [msk, dOf]
  | b :: d, 0 => by
    rw [Nat.testBit_zero]
    cases b <;> simp [msk, dOf, Nat.add_mul_mod_self_left]
  | b :: d, k + 1 => by
    rw [Nat.testBit_succ]
    have e : (msk (b :: d)) / 2 = msk d := by rw [msk_cons]; cases b <;> simp <;> omega
    rw [e, msk_bit d k]
    simp [dOf]
theorem msk_lt : ∀ (d : List Bool), msk d < 2 ^ d.length
  | [] => by simp [msk]
  | b :: d => by
    have := msk_lt d
    rw [List.length_cons, Nat.pow_succ]
    rw [msk_cons]
    cases b <;> simp <;> omega
theorem msk_inj {a b : List Bool} (h : a.length = b.length) (e : msk a = msk b) : a = b := by
  apply List.ext_getElem h
  intro i h1 h2
  have := congrArg (fun n => Nat.testBit n i) e
  simp only [msk_bit] at this
  rw [dOf_get h1, dOf_get h2, this]
theorem msk_set {d : List Bool} {i : Nat} (h : i < d.length) : msk d ||| 2 ^ i = msk (d.set i true) := by
  apply Nat.eq_of_testBit_eq
  intro k
  rw [Nat.testBit_or, msk_bit, msk_bit, Nat.testBit_two_pow]
  by_cases c : i = k
  · subst c
    unfold dOf
    rw [List.getD_eq_getElem?_getD, List.getD_eq_getElem?_getD, List.getElem?_set_self h]
    simp
  · unfold dOf
    rw [List.getD_eq_getElem?_getD, List.getD_eq_getElem?_getD, List.getElem?_set_ne c]
    simp [c]
theorem msk_small {d : List Bool} (h : d.length = 14) : msk d < 16384 := by have := msk_lt d; rw [h] at this; omega
section
variable {E : Env} {nt : Nat} {ops : Array Oper} {T : Nat → Option AV} {H : Hp} {d : Option Nat} {ty : TypeId} {pos : String} {af : Array Edge} {gd : Option (Nat × Bool)}
theorem o_cvuj {s t : TypeId} {x : Operand} {n : Nat} (hs : ∃ u, Try.prog.underlying s = some u) (ht : Try.prog.underlying t = some (.int .u64)) (hd : dOk nt d = true) (hx : evalO T x = some (.v (.int .i64 (n : Nat)))) (hn : n < 64) : OpOK Try.prog E nt ops ⟨d, .convert s t x, ty, pos, af, gd⟩ T H [] ⟨.v (.int .u64 (n : Nat)), []⟩ :=
  ok_conv_i hs ht hd hx (by rw [wrap_u64']; omega)
theorem o_shl1 {t t' : TypeId} {x y : Operand} {n : Nat} (hd : dOk nt d = true) (hx : evalO T x = some (.v (.int .i64 1))) (hy : evalO T y = some (.v (.int .u64 (n : Nat)))) (hn : n < 60) : OpOK Try.prog E nt ops ⟨d, .binOp .shl t x y t', ty, pos, af, gd⟩ T H [] ⟨.v (.int .i64 ((2 ^ n : Nat) : Int)), []⟩ :=
  ok_bin hd hx hy (fun w => by
    have h1 : ¬ ((n : Nat) : Int) < 0 := by omega
    have h2 : min ((n : Nat) : Int).toNat IntKind.i64.bits = n := by rw [Int.toNat_natCast]; show min n 64 = n; omega
    have h3 : IntKind.i64.wrap (1 * 2 ^ n) = ((2 ^ n : Nat) : Int) := by
      have h4 : 2 ^ n < 2 ^ 60 := Nat.pow_lt_pow_right (by omega) hn
      have h5 : (1 : Int) * 2 ^ n = ((2 ^ n : Nat) : Int) := by rw [Int.one_mul]; exact (Int.natCast_pow 2 n).symm
      rw [h5, IntKind.wrap_i64]
      generalize 2 ^ n = m at h4 ⊢
      omega
    simp only [eqGuard, binOp, Op.shift, h1, h2, h3]; rfl) rfl
theorem o_ori {t t' : TypeId} {x y : Operand} {a b : Nat} (hd : dOk nt d = true) (hx : evalO T x = some (.v (.int .i64 (a : Nat)))) (hy : evalO T y = some (.v (.int .i64 (b : Nat)))) (ha : a < 16384) (hb : b < 16384) : OpOK Try.prog E nt ops ⟨d, .binOp .or t x y t', ty, pos, af, gd⟩ T H [] ⟨.v (.int .i64 ((a ||| b : Nat) : Int)), []⟩ :=
  ok_bin hd hx hy (fun w => by
    have h1 : (BitVec.ofInt IntKind.i64.bits (a : Nat)).toNat = a := by show (BitVec.ofInt 64 (a : Nat)).toNat = a; rw [BitVec.toNat_ofInt]; omega
    have h2 : (BitVec.ofInt IntKind.i64.bits (b : Nat)).toNat = b := by show (BitVec.ofInt 64 (b : Nat)).toNat = b; rw [BitVec.toNat_ofInt]; omega
    have h3 : a ||| b < 2 ^ 14 := Nat.or_lt_two_pow (by omega) (by omega)
    have h4 : IntKind.i64.wrap (((BitVec.ofInt IntKind.i64.bits (a : Nat)) ||| (BitVec.ofInt IntKind.i64.bits (b : Nat))).toNat : Int) = ((a ||| b : Nat) : Int) := by
      rw [BitVec.toNat_or, h1, h2, IntKind.wrap_i64]
      omega
    simp [eqGuard, binOp, Op.intBits]
    exact h4) rfl
end
/-! ### what was met -/
def trA (k : Ky) : AV := .agg 2 [intA (msk k.1 : Nat), entsA k.2]
def metA (T : List Ky) : AV := .sl (some 1001) 2 (T.map trA)
def srchA (l : List Cal) (T : List Ky) : AV := .agg 3 [calsA l, metA T, intA 0]
def bxS (l : List Cal) (T : List Ky) : List (Nat × Bx) := [(1000, .var (srchA l T)), (1001, .tail 118 2 T.length)]
theorem zero_tried : ZeroOk Try.prog 118 (.agg 2 [intA 0, .v (.slice none 0 0)]) := zero_of (v := .agg #[.int .i64 0, .slice none 0 0]) (n := 2) (by kernel_rfl) fun U w => by
  simp only [Rd, Rds]
  exact ⟨rfl, [.int .i64 0], _, rfl, by unfold intA; simp [Rd, plain], [.slice none 0 0], [], rfl, ⟨rfl, rfl⟩, rfl⟩
theorem zero_refsearch : ZeroOk Try.prog 71 (.agg 3 [.v (.slice none 0 0), .v (.slice none 0 0), intA 0]) := zero_of (v := .agg #[.slice none 0 0, .slice none 0 0, .int .i64 0]) (n := 3) (by kernel_rfl) fun U w => by
  simp only [Rd, Rds]
  exact ⟨rfl, [.slice none 0 0], _, rfl, ⟨rfl, rfl⟩, [.slice none 0 0], _, rfl, ⟨rfl, rfl⟩, [.int .i64 0], [], rfl, by unfold intA; simp [Rd, plain], rfl⟩
/-- what is met once more, or anew -/
def seenT (T : List Ky) (k : Ky) : List Ky := if k ∈ T then T else T ++ [k]
attribute [local irreducible] OpOK AWops AW CondB Go2 AFn thenA inBlockA noGotoA orderOk wantedA
set_option maxRecDepth 100000 in
set_option maxHeartbeats 4000000 in
theorem c_refseen (l : List Cal) (T : List Ky) (hT : ∀ k ∈ T, KyOk k) (hTl : T.length ≤ 1000000000000) (k : Ky) (hk : KyOk k) :
    CFn Try.prog 47 [.ptr 1000 0 [], intA (msk k.1 : Nat), entsA k.2] (bxS l T) (boolA (decide (k ∈ T))) (bxS l (seenT T k)) := by
  refine CFn_intro Try.func47 rfl Try.ntmps47 rfl (by simp) [_] rfl fun E hE => ?_; have hnt : (!true) = false := rfl; have hnf : (!false) = true := rfl
  refine wSS ?_
  refine AW_loopI (fun j : Nat => ⟨[(0, .ptr 1000 0 []), (1, intA (msk k.1 : Nat)), (2, entsA k.2), (7, intA (j : Nat))], bxS l T⟩) (fun j => j ≤ T.length ∧ ∀ i, i < j → T[i]? ≠ some k) (fun j => T.length - j) 0 ⟨Nat.zero_le _, fun i hi => absurd hi (Nat.not_lt_zero _)⟩ (by (refine Go2.sub ⟨?_, ?_, ?_⟩ <;> repeat' (first | exact True.intro | rfl | apply And.intro))) (fun j hj => ?_)
  obtain ⟨hj, ha⟩ := hj
  unfold bxS srchA metA
  by_cases c : j < T.length
  · have ek : T[j] = k ↔ (msk T[j].1 = msk k.1 ∧ T[j].2 = k.2) := ⟨fun e => by rw [e]; exact ⟨rfl, rfl⟩, fun ⟨e1, e2⟩ => Prod.ext (msk_inj ((hT _ (List.getElem_mem c)).len.trans hk.len.symm) e1) e2⟩
    have hsame := m_sameEnts T[j].2 k.2 (by have := (hT _ (List.getElem_mem c)).few; omega)
    by_cases e1 : msk T[j].1 = msk k.1
    · have g1 : ((msk T[j].1 : Nat) : Int) = (msk k.1 : Nat) := by omega
      by_cases e2 : T[j].2 = k.2
      · have hin : k ∈ T := (ek.2 ⟨e1, e2⟩) ▸ List.getElem_mem c
        rw [decide_eq_true e2] at hsame
        rw [decide_eq_true hin, show seenT T k = T from if_pos hin]
        have d1 := acall Try.func60 (hsame) (by decide +kernel) (by decide +kernel)
        refine wSS ?_
        exact finc ⟨⟨(by repeat' (first | exact True.intro | rfl | apply And.intro)), rfl⟩, rc_of rfl rfl rfl, trivial⟩
      · rw [decide_eq_false e2] at hsame
        have d1 := acall Try.func60 (hsame) (by decide +kernel) (by decide +kernel)
        refine wSS ?_
        refine ⟨j + 1, ⟨c, fun i hi => ?_⟩, by omega, ?_⟩
        · rcases Nat.lt_or_ge i j with h1 | h1
          · exact ha i h1
          · rw [show i = j by omega, List.getElem?_eq_getElem c]
            intro e; injection e with e; exact e2 (ek.1 e).2
        · (refine Go2.sub ⟨?_, ?_, ?_⟩ <;> repeat' (first | exact True.intro | rfl | apply And.intro))
    · have g1 : ¬ ((msk T[j].1 : Nat) : Int) = (msk k.1 : Nat) := by omega
      refine wSS ?_
      refine ⟨j + 1, ⟨c, fun i hi => ?_⟩, by omega, ?_⟩
      · rcases Nat.lt_or_ge i j with h1 | h1
        · exact ha i h1
        · rw [show i = j by omega, List.getElem?_eq_getElem c]
          intro e; injection e with e; exact e1 (ek.1 e).1
      · (refine Go2.sub ⟨?_, ?_, ?_⟩ <;> repeat' (first | exact True.intro | rfl | apply And.intro))
  · obtain rfl : j = T.length := by omega
    have hni : k ∉ T := fun h => by
      obtain ⟨i, hi, e⟩ := List.getElem_of_mem h
      exact ha i hi (by rw [List.getElem?_eq_getElem hi, e])
    rw [decide_eq_false hni, show seenT T k = T ++ [k] from if_neg hni]
    refine wSS ?_
    (apply Wv; (focus (exact o_bld zero_tried rfl rfl rfl rfl rfl rfl rfl)); (focus (first | exact want_n | exact want_g rfl (by with_reducible rfl))))
    (apply Wb; (focus (exact o_bsll zero_tried rfl rfl rfl rfl rfl rfl rfl rfl)); (focus (first | exact want_n | exact want_g rfl (by with_reducible rfl))))
    (apply Wb; (focus (exact o_app (f := trA) (xs := T) (zs := [k]) rfl rfl rfl rfl rfl (by exact o_one _ _ rfl) (by simp; omega) (by simp; omega))); (focus (first | exact want_n | exact want_g rfl (by with_reducible rfl))))
    refine wSS ?_
    exact finc ⟨⟨(by repeat' (first | exact True.intro | rfl | apply And.intro)), rfl⟩, rc_of rfl rfl rfl, trivial⟩
end Go.Proofs.Ytphojngdgmnpaaa

namespace Go.Proofs.Ytphojngdgmnpaaa
open Go Go.RowKit
set_option linter.unusedVariables false
set_option linter.unusedSimpArgs false
set_option maxRecDepth 100000
/-- how many are not done, from a place on -/
def und (l : List Cal) (d : List Bool) (j : Nat) : Nat := (List.range' j (l.length - j)).countP fun k => !dOf d k
theorem und_step {l : List Cal} {d : List Bool} {j : Nat} (h : j < l.length) : und l d j = und l d (j + 1) + if dOf d j then 0 else 1 := by
  unfold und
  rw [show l.length - j = (l.length - (j + 1)) + 1 by omega, List.range'_succ, List.countP_cons]
  cases dOf d j <;> simp
theorem und_le (l : List Cal) (d : List Bool) (j : Nat) : und l d j ≤ l.length - j := by
  unfold und
  have := List.countP_le_length (p := fun k => !dOf d k) (l := List.range' j (l.length - j))
  simpa using this
theorem dOf_set {d : List Bool} {i k : Nat} (h : i < d.length) : dOf (d.set i true) k = (decide (k = i) || dOf d k) := by
  unfold dOf
  rw [List.getD_eq_getElem?_getD, List.getD_eq_getElem?_getD, List.getElem?_set]
  by_cases c : i = k
  · subst c; simp [h]
  · rw [if_neg c]
    simp [show ¬ k = i from fun e => c e.symm]
theorem cnt_set {i : Nat} {d : List Bool} (hi : i < d.length) (h0 : dOf d i = false) : ∀ (ks : List Nat), i ∈ ks → ks.Nodup → (ks.countP fun k => !dOf (d.set i true) k) + 1 = ks.countP fun k => !dOf d k
  | [], h, _ => by cases h
  | k :: ks, h, hn => by
    rw [List.countP_cons, List.countP_cons]
    rw [List.nodup_cons] at hn
    by_cases c : k = i
    · subst c
      have e : (ks.countP fun q => !dOf (d.set k true) q) = ks.countP fun q => !dOf d q := List.countP_congr fun q hq => by
        rw [dOf_set hi, decide_eq_false (fun e : q = k => hn.1 (e ▸ hq))]; simp
      rw [e, dOf_set hi, h0]
      simp
    · have hm : i ∈ ks := by
        rcases List.mem_cons.1 h with h | h
        · exact absurd h.symm c
        · exact h
      have ih := cnt_set hi h0 ks hm hn.2
      rw [dOf_set hi, decide_eq_false c, Bool.false_or]
      omega
theorem und_set {l : List Cal} {d : List Bool} {i : Nat} (hi : i < l.length) (hd : i < d.length) (h0 : dOf d i = false) : und l (d.set i true) 0 + 1 = und l d 0 := by
  unfold und
  exact cnt_set hd h0 _ (by rw [Nat.sub_zero, ← List.range_eq_range']; exact List.mem_range.2 hi) List.nodup_range'
/-! ### the same over as many bools as there are calls -/
theorem dOf_take {d : List Bool} {n k : Nat} (h : k < n) : dOf (d.take n) k = dOf d k := by
  unfold dOf
  rw [List.getD_eq_getElem?_getD, List.getD_eq_getElem?_getD, List.getElem?_take, if_pos h]
theorem all_congr' {p q : Nat → Bool} {n : Nat} (h : ∀ k, k < n → p k = q k) : (List.range n).all p = (List.range n).all q := by
  rw [Bool.eq_iff_iff, List.all_eq_true, List.all_eq_true]
  constructor
  · intro g k hk; rw [← h k (List.mem_range.1 hk)]; exact g k hk
  · intro g k hk; rw [h k (List.mem_range.1 hk)]; exact g k hk
theorem rdy_congr {l : List Cal} {i : Nat} {p q : Nat → Bool} (h : ∀ k, k < l.length → p k = q k) : rdy l i p = rdy l i q := all_congr' fun k hk => by unfold rdyAt; rw [h k hk]
theorem whl_congr {l : List Cal} {p q : Nat → Bool} (h : ∀ k, k < l.length → p k = q k) : whl l p = whl l q := all_congr' fun k hk => by unfold whlAt; rw [h k hk]
theorem dOf_must {l : List Cal} {i : Nat} (h : i < 14) : dOf (mustOf l) i = (decide (i < l.length) && decide (0 ≤ (atC l i).to)) := by unfold mustOf; rw [dOf_map h]
theorem dOf_zip {a b : List Bool} (ha : a.length = 14) (hb : b.length = 14) {i : Nat} (h : i < 14) : dOf (List.zipWith (· && ·) a b) i = (dOf a i && dOf b i) := by
  unfold dOf
  rw [List.getD_eq_getElem?_getD, List.getD_eq_getElem?_getD, List.getD_eq_getElem?_getD, List.getElem?_zipWith, List.getElem?_eq_getElem (by omega), List.getElem?_eq_getElem (by omega)]; rfl
theorem ovr_whl {l : List Cal} (hl : l.length ≤ 14) {d : List Bool} (hd : d.length = 14) : ovr l d = whl l (dOf d) := by
  unfold ovr
  rw [Bool.eq_iff_iff, decide_eq_true_eq]
  unfold whl
  rw [List.all_eq_true]
  constructor
  · intro h k hk
    have hk := List.mem_range.1 hk
    have := congrArg (fun a => dOf a k) h
    simp only [dOf_zip hd (must_len l) (show k < 14 by omega), dOf_must (show k < 14 by omega)] at this
    unfold whlAt
    rw [decide_eq_true hk, Bool.true_and] at this
    by_cases c : (atC l k).to < 0
    · rw [decide_eq_true c]; rfl
    · rw [decide_eq_true (show 0 ≤ (atC l k).to by omega), Bool.and_true] at this
      rw [this, Bool.or_true]
  · intro h
    refine ext14 (by simp [hd]) (must_len l) fun i hi => ?_
    rw [dOf_zip hd (must_len l) hi, dOf_must hi]
    by_cases hk : i < l.length
    · have := h i (List.mem_range.2 hk)
      unfold whlAt at this
      rw [decide_eq_true hk, Bool.true_and]
      by_cases c : (atC l i).to < 0
      · rw [decide_eq_false (show ¬ 0 ≤ (atC l i).to by omega), Bool.and_false]
      · rw [decide_eq_false c, Bool.false_or] at this
        rw [this, Bool.true_and]
    · rw [decide_eq_false hk]; simp
/-! ### how long -/
def nd : Nat → Nat
  | 0 => 1
  | f + 1 => 1 + (f + 1) * nd f
theorem nd14 : nd 14 = 236975164805 := by decide
abbrev restO (r : Option (List Nat)) : List Nat := r.getD []
theorem restO_ordO (r : Option (List Nat)) : ordO [] r = restO r := by cases r <;> rfl
theorem fmL_len {l : List Cal} {R : List Bool → List Ent → List Ky → Rs} {d : List Bool} {m : List Ent} (hd : d.length = 14) (hl : l.length ≤ 14) {N : Nat}
    (hR : ∀ i m' T', i < l.length → dOf d i = false → (R (d.set i true) m' T').2.length ≤ T'.length + N ∧ (restO (R (d.set i true) m' T').1).length + 1 ≤ und l d 0) :
    ∀ (is : List Nat) (T : List Ky), (∀ i ∈ is, i < l.length) → (fmL l R d m is T).2.length ≤ T.length + (is.countP fun k => !dOf d k) * N ∧ (restO (fmL l R d m is T).1).length ≤ und l d 0
  | [], T, _ => by simp [fmL]
  | i :: is, T, hi => by
    have ih := fun T' => fmL_len (m := m) hd hl hR is T' (fun i h => hi i (by simp [h]))
    rw [List.countP_cons]
    have hmul : ∀ c : Nat, (c + 1) * N = c * N + N := fun c => Nat.succ_mul c N
    generalize hcc : (is.countP fun k => !dOf d k) = cc at ih ⊢
    unfold fmL
    split
    · have := ih T
      refine ⟨Nat.le_trans this.1 (Nat.add_le_add_left (Nat.mul_le_mul_right N (by omega)) _), this.2⟩
    · rename_i h1
      have h0 : dOf d i = false := by cases h : dOf d i <;> simp_all
      rw [h0]
      simp only [Bool.not_false, if_true]
      rw [hmul]
      split
      · have h2 := hR i (doC m (atC l i)).1 T (hi i (by simp)) h0
        split
        · rename_i s T' he
          rw [he] at h2
          refine ⟨?_, ?_⟩
          · show T'.length ≤ _
            have : T'.length ≤ T.length + N := h2.1
            omega
          · show (i :: s).length ≤ _
            have : s.length + 1 ≤ und l d 0 := h2.2
            simpa using this
        · rename_i T' he
          rw [he] at h2
          have h3 : T'.length ≤ T.length + N := h2.1
          have := ih T'
          exact ⟨by omega, this.2⟩
      · have := ih T
        exact ⟨by omega, this.2⟩
theorem fmB_len {l : List Cal} {R : List Bool → List Ent → List Ky → Rs} {d : List Bool} {m : List Ent} (hd : d.length = 14) (hl : l.length ≤ 14) {N : Nat}
    (hR : ∀ i m' T', i < l.length → dOf d i = false → (R (d.set i true) m' T').2.length ≤ T'.length + N ∧ (restO (R (d.set i true) m' T').1).length + 1 ≤ und l d 0) (T : List Ky) :
    (fmB l R d m T).2.length ≤ T.length + 1 + und l d 0 * N ∧ (restO (fmB l R d m T).1).length ≤ und l d 0 := by
  unfold fmB
  split
  · exact ⟨by show T.length ≤ _; omega, Nat.zero_le _⟩
  · split
    · exact ⟨by show T.length ≤ _; omega, Nat.zero_le _⟩
    · have := fmL_len (m := m) hd hl hR (List.range l.length) (T ++ [(d, m)]) fun i hi => List.mem_range.1 hi
      rw [List.length_append, List.length_singleton] at this
      have e : (List.range l.length).countP (fun k => !dOf d k) = und l d 0 := by unfold und; rw [Nat.sub_zero, List.range_eq_range']
      rw [e] at this
      exact this
theorem fm_len {l : List Cal} (hl : l.length ≤ 14) : ∀ (f : Nat) (d : List Bool) (m : List Ent) (T : List Ky), d.length = 14 → und l d 0 ≤ f →
    (fm l f d m T).2.length ≤ T.length + nd f ∧ (restO (fm l f d m T).1).length ≤ und l d 0
  | 0, d, m, T, hd, hf => by
    have := fmB_len (R := fun _ _ T => (none, T)) (m := m) hd hl (N := 0) (fun i m' T' hi h0 => by
      have := und_set hi (by omega) h0
      omega) T
    exact ⟨by have h := this.1; unfold nd; rw [Nat.mul_zero] at h; exact h, this.2⟩
  | f + 1, d, m, T, hd, hf => by
    have := fmB_len (R := fm l f) (m := m) hd hl (N := nd f) (fun i m' T' hi h0 => by
      have h1 := und_set hi (by omega) h0
      have h2 := fm_len hl f (d.set i true) m' T' (by simpa using hd) (by omega)
      exact ⟨h2.1, by have := h2.2; omega⟩) T
    refine ⟨Nat.le_trans this.1 ?_, this.2⟩
    show _ ≤ T.length + (1 + (f + 1) * nd f)
    have := Nat.mul_le_mul_right (nd f) hf
    omega
end Go.Proofs.Ytphojngdgmnpaaa

namespace Go.Proofs.Ytphojngdgmnpaaa
open Go Go.RowKit
set_option linter.unusedVariables false
set_option linter.unusedSimpArgs false
set_option maxRecDepth 100000
theorem wOB {Q R : Prop} (k : R) (h : Hid R → Q := by intro kHid; (repeat (first | (first | refine Wend _ ?_ | refine AW_seq ?_ | refine AW_reg ?_ | refine AW_drw mixed ?_ | refine AW_block ?_ | refine AW_scope ?_ | refine thenA_n ?_ | refine blockA_n ?_ | refine blockA_h ?_ | refine scopeA_n ?_ | refine thenA_r ?_ | refine blockA_r ?_ | refine scopeA_r ?_ | refine thenA_e ?_ | refine scopeA_e ?_ | refine blockA_e rfl ?_ | refine AW_exit ?_ | refine AW_ret ?_ | refine AW_skip ?_ | refine AW_c rfl ?_ | with_reducible refine cb_t ?_ | with_reducible refine cb_f ?_ | with_reducible refine cb_yes (by first | assumption | omega) ?_ | with_reducible refine cb_no (by first | assumption | omega) ?_ | refine And.intro (by decide +kernel) ?_) | (first | (apply Wb; (focus (first | exact o_bsl0O rfl rfl rfl | exact oo_app0 rfl rfl rfl rfl rfl (by first | exact o_many rfl | exact o_one _ _ rfl | exact o_zero rfl) (by first | omega | (simp; omega) | (simp; done)) (by first | omega | (simp; omega) | (simp; done)) | exact ob_make (f := boolA) (z := false) rfl rfl rfl rfl rfl rfl rfl rfl (by omega) (by omega))); (focus (first | exact want_n | exact want_g rfl (by with_reducible rfl)))) | (apply Wv; (focus (exact ob_idx rfl rfl rfl rfl rfl rfl (by first | rfl | assumption | omega | (simp; done) | (simp; omega)) (by first | rfl | assumption | omega | (simp; done) | (simp; omega)))); (focus (first | exact want_n | exact want_g rfl (by with_reducible rfl)))) | (apply Ws; (focus (exact ob_st (f := boolA) rfl rfl rfl (by first | rfl | assumption | omega | (simp; done) | (simp; omega)) (by first | rfl | assumption | omega | (simp; done) | (simp; omega)) rfl (fun _ => rfl) rfl rfl)); (focus (first | exact want_n | exact want_g rfl (by with_reducible rfl)))) | (first | (apply Wv; (focus (first | exact step_ok rfl rfl | exact o_idx rfl rfl rfl rfl (by first | assumption | omega | decide) | exact o_idx3 rfl rfl rfl rfl (by first | assumption | omega | decide) | exact o_idx2 rfl rfl rfl rfl rfl (by first | assumption | omega | decide) | exact o_idxr rfl rfl rfl rfl rfl rfl | exact o_lenm rfl rfl rfl | exact o_len rfl rfl rfl | exact o_len0 rfl rfl rfl | exact o_lens rfl rfl rfl | exact o_lent rfl rfl | exact o_add1 rfl rfl rfl (by omega) | exact o_addn rfl rfl rfl (by omega) | exact o_add rfl rfl rfl (by omega) | exact o_sub1 rfl rfl rfl (by omega) | exact o_sub rfl rfl rfl (by omega) | exact o_mul rfl rfl rfl (by omega) | exact o_rem rfl rfl rfl (by omega) | exact ok_rem rfl rfl rfl (by decide) rfl | exact o_eqKey rfl rfl rfl | exact o_neKey rfl rfl rfl | exact o_eqVl rfl rfl rfl | exact o_neVl rfl rfl rfl | exact o_eqEnt rfl rfl rfl | exact o_neEnt rfl rfl rfl | exact o_eqMsg rfl rfl rfl | exact o_neMsg rfl rfl rfl | exact o_acall rfl rfl rfl rfl (by assumption) | exact o_minn rfl rfl rfl | exact o_cutl rfl rfl rfl rfl (by omega) | exact o_cuth rfl rfl rfl rfl (by omega) | exact o_cutl3 rfl rfl rfl rfl (by omega) | exact o_cuth3 rfl rfl rfl rfl (by omega) | exact o_cutl2 rfl rfl rfl rfl rfl (by omega) | exact o_cuth2 rfl rfl rfl rfl rfl (by omega) | exact o_cutlh2 rfl rfl rfl rfl rfl rfl rfl (by omega) (by omega) | exact o_bld zero_Opn rfl rfl rfl rfl rfl rfl rfl | exact o_bld zero_Cal rfl rfl rfl rfl rfl rfl rfl | exact o_bld zero_state rfl rfl rfl rfl rfl rfl rfl | exact o_bld zero_search rfl rfl rfl rfl rfl rfl rfl | exact o_nilcr rfl rfl | exact o_nilcp rfl rfl | exact o_eqbar rfl rfl rfl (by simp) (by simp) | exact o_ldbar rfl rfl (by simp) rfl (by first | omega | (simp; omega)) rfl | exact o_idxpn rfl rfl rfl rfl (by omega) | exact o_idxvn rfl rfl rfl rfl (by omega) (by assumption) rfl | exact o_idxrn rfl rfl rfl rfl (by omega) (by assumption) | exact o_cutarr rfl rfl rfl rfl | exact o_mkfn rfl rfl rfl | exact o_callv rfl rfl rfl rfl rfl rfl (by assumption) | exact o_bld zero_Ans rfl rfl rfl rfl rfl rfl rfl | exact o_eqAns rfl rfl rfl | exact o_neAns rfl rfl rfl | exact e_bld rfl rfl rfl | exact e_bldk rfl rfl | exact z_bld0 rfl rfl rfl rfl rfl | exact z_bld rfl rfl rfl rfl rfl rfl rfl | exact o_addu rfl rfl rfl | exact z_blda rfl rfl rfl rfl rfl rfl rfl rfl rfl | exact o_idxa rfl rfl rfl rfl rfl rfl | exact o_idxra rfl rfl rfl rfl rfl rfl rfl | exact o_quo2 rfl rfl rfl (by omega) | exact o_quo rfl rfl rfl (by omega))); (focus (first | exact want_n | exact want_g rfl (by with_reducible rfl)))) | (apply Wb; (focus (first | exact o_box rfl rfl rfl rfl | exact o_app rfl rfl rfl rfl rfl (by first | exact o_many rfl | exact o_one _ _ rfl) (by first | omega | (simp; omega) | simp) (by first | omega | (simp; omega) | simp) | exact o_appn rfl rfl rfl rfl rfl (by first | exact o_many rfl | exact o_one _ _ rfl) (by first | omega | (simp; omega) | simp) (by first | omega | (simp; omega) | simp) | exact o_app1 rfl rfl rfl rfl rfl (by first | exact o_many rfl | exact o_one _ _ rfl) (by exact rfl) (by first | omega | (simp; omega) | simp) (by first | omega | (simp; omega) | simp) | exact o_app0 rfl rfl rfl rfl rfl (by first | exact o_many rfl | exact o_one _ _ rfl) (by first | omega | (simp; omega) | simp) (by first | omega | (simp; omega) | simp) | exact o_bsl0 rfl rfl rfl | exact z_bsll rfl rfl rfl rfl rfl rfl rfl rfl rfl | exact z_alloc rfl rfl rfl | exact o_alloc zero_Opn rfl rfl | exact o_alloc zero_Cal rfl rfl | exact o_alloc zero_state rfl rfl | exact o_alloc zero_b14 rfl rfl | exact o_cpents rfl rfl rfl rfl rfl rfl (by omega) | exact o_alloc zero_Ans rfl rfl | exact o_bsll zero_Ans rfl rfl rfl rfl rfl rfl rfl rfl | exact o_bsll zero_Opn rfl rfl rfl rfl rfl rfl rfl rfl)); (focus (first | exact want_n | exact want_g rfl (by with_reducible rfl)))) | (apply Ws; (focus (first | exact o_stin rfl (by simp) rfl rfl (by first | omega | (simp; omega)) rfl | exact o_stbar rfl (by simp) rfl rfl (by first | omega | (simp; omega)) rfl | exact ok_store tabT (d := none) rfl rfl rfl rfl rfl rfl rfl rfl rfl rfl)); (focus (first | exact want_n | exact want_g rfl (by with_reducible rfl)))) | (refine Wskip (by first | exact want_f rfl (by with_reducible exact b_nt) | exact want_f rfl (by with_reducible exact b_nf) | exact want_t rfl) rfl ?_) | refine Wgt rfl rfl (by first | assumption | omega | exact rfl) ?_ | refine Wgf rfl rfl (by first | assumption | omega | exact rfl) ?_ | (refine Wgb rfl rfl (by with_reducible assumption) ?_) | (refine cb_is _ (by assumption) ?_))))); exact kHid.out) : Q := h ⟨k⟩
theorem wOBs {Q R : Prop} (k : R) (h : Hid R → Q := by intro kHid; ((first | (first | refine Wend _ ?_ | refine AW_seq ?_ | refine AW_reg ?_ | refine AW_drw mixed ?_ | refine AW_block ?_ | refine AW_scope ?_ | refine thenA_n ?_ | refine blockA_n ?_ | refine blockA_h ?_ | refine scopeA_n ?_ | refine thenA_r ?_ | refine blockA_r ?_ | refine scopeA_r ?_ | refine thenA_e ?_ | refine scopeA_e ?_ | refine blockA_e rfl ?_ | refine AW_exit ?_ | refine AW_ret ?_ | refine AW_skip ?_ | refine AW_c rfl ?_ | with_reducible refine cb_t ?_ | with_reducible refine cb_f ?_ | with_reducible refine cb_yes (by first | assumption | omega) ?_ | with_reducible refine cb_no (by first | assumption | omega) ?_ | refine And.intro (by decide +kernel) ?_) | (first | (apply Wb; (focus (first | exact o_bsl0O rfl rfl rfl | exact oo_app0 rfl rfl rfl rfl rfl (by first | exact o_many rfl | exact o_one _ _ rfl | exact o_zero rfl) (by first | omega | (simp; omega) | (simp; done)) (by first | omega | (simp; omega) | (simp; done)) | exact ob_make (f := boolA) (z := false) rfl rfl rfl rfl rfl rfl rfl rfl (by omega) (by omega))); (focus (first | exact want_n | exact want_g rfl (by with_reducible rfl)))) | (apply Wv; (focus (exact ob_idx rfl rfl rfl rfl rfl rfl (by first | rfl | assumption | omega | (simp; done) | (simp; omega)) (by first | rfl | assumption | omega | (simp; done) | (simp; omega)))); (focus (first | exact want_n | exact want_g rfl (by with_reducible rfl)))) | (apply Ws; (focus (exact ob_st (f := boolA) rfl rfl rfl (by first | rfl | assumption | omega | (simp; done) | (simp; omega)) (by first | rfl | assumption | omega | (simp; done) | (simp; omega)) rfl (fun _ => rfl) rfl rfl)); (focus (first | exact want_n | exact want_g rfl (by with_reducible rfl)))) | (first | (apply Wv; (focus (first | exact step_ok rfl rfl | exact o_idx rfl rfl rfl rfl (by first | assumption | omega | decide) | exact o_idx3 rfl rfl rfl rfl (by first | assumption | omega | decide) | exact o_idx2 rfl rfl rfl rfl rfl (by first | assumption | omega | decide) | exact o_idxr rfl rfl rfl rfl rfl rfl | exact o_lenm rfl rfl rfl | exact o_len rfl rfl rfl | exact o_len0 rfl rfl rfl | exact o_lens rfl rfl rfl | exact o_lent rfl rfl | exact o_add1 rfl rfl rfl (by omega) | exact o_addn rfl rfl rfl (by omega) | exact o_add rfl rfl rfl (by omega) | exact o_sub1 rfl rfl rfl (by omega) | exact o_sub rfl rfl rfl (by omega) | exact o_mul rfl rfl rfl (by omega) | exact o_rem rfl rfl rfl (by omega) | exact ok_rem rfl rfl rfl (by decide) rfl | exact o_eqKey rfl rfl rfl | exact o_neKey rfl rfl rfl | exact o_eqVl rfl rfl rfl | exact o_neVl rfl rfl rfl | exact o_eqEnt rfl rfl rfl | exact o_neEnt rfl rfl rfl | exact o_eqMsg rfl rfl rfl | exact o_neMsg rfl rfl rfl | exact o_acall rfl rfl rfl rfl (by assumption) | exact o_minn rfl rfl rfl | exact o_cutl rfl rfl rfl rfl (by omega) | exact o_cuth rfl rfl rfl rfl (by omega) | exact o_cutl3 rfl rfl rfl rfl (by omega) | exact o_cuth3 rfl rfl rfl rfl (by omega) | exact o_cutl2 rfl rfl rfl rfl rfl (by omega) | exact o_cuth2 rfl rfl rfl rfl rfl (by omega) | exact o_cutlh2 rfl rfl rfl rfl rfl rfl rfl (by omega) (by omega) | exact o_bld zero_Opn rfl rfl rfl rfl rfl rfl rfl | exact o_bld zero_Cal rfl rfl rfl rfl rfl rfl rfl | exact o_bld zero_state rfl rfl rfl rfl rfl rfl rfl | exact o_bld zero_search rfl rfl rfl rfl rfl rfl rfl | exact o_nilcr rfl rfl | exact o_nilcp rfl rfl | exact o_eqbar rfl rfl rfl (by simp) (by simp) | exact o_ldbar rfl rfl (by simp) rfl (by first | omega | (simp; omega)) rfl | exact o_idxpn rfl rfl rfl rfl (by omega) | exact o_idxvn rfl rfl rfl rfl (by omega) (by assumption) rfl | exact o_idxrn rfl rfl rfl rfl (by omega) (by assumption) | exact o_cutarr rfl rfl rfl rfl | exact o_mkfn rfl rfl rfl | exact o_callv rfl rfl rfl rfl rfl rfl (by assumption) | exact o_bld zero_Ans rfl rfl rfl rfl rfl rfl rfl | exact o_eqAns rfl rfl rfl | exact o_neAns rfl rfl rfl | exact e_bld rfl rfl rfl | exact e_bldk rfl rfl | exact z_bld0 rfl rfl rfl rfl rfl | exact z_bld rfl rfl rfl rfl rfl rfl rfl | exact o_addu rfl rfl rfl | exact z_blda rfl rfl rfl rfl rfl rfl rfl rfl rfl | exact o_idxa rfl rfl rfl rfl rfl rfl | exact o_idxra rfl rfl rfl rfl rfl rfl rfl | exact o_quo2 rfl rfl rfl (by omega) | exact o_quo rfl rfl rfl (by omega))); (focus (first | exact want_n | exact want_g rfl (by with_reducible rfl)))) | (apply Wb; (focus (first | exact o_box rfl rfl rfl rfl | exact o_app rfl rfl rfl rfl rfl (by first | exact o_many rfl | exact o_one _ _ rfl) (by first | omega | (simp; omega) | simp) (by first | omega | (simp; omega) | simp) | exact o_appn rfl rfl rfl rfl rfl (by first | exact o_many rfl | exact o_one _ _ rfl) (by first | omega | (simp; omega) | simp) (by first | omega | (simp; omega) | simp) | exact o_app1 rfl rfl rfl rfl rfl (by first | exact o_many rfl | exact o_one _ _ rfl) (by exact rfl) (by first | omega | (simp; omega) | simp) (by first | omega | (simp; omega) | simp) | exact o_app0 rfl rfl rfl rfl rfl (by first | exact o_many rfl | exact o_one _ _ rfl) (by first | omega | (simp; omega) | simp) (by first | omega | (simp; omega) | simp) | exact o_bsl0 rfl rfl rfl | exact z_bsll rfl rfl rfl rfl rfl rfl rfl rfl rfl | exact z_alloc rfl rfl rfl | exact o_alloc zero_Opn rfl rfl | exact o_alloc zero_Cal rfl rfl | exact o_alloc zero_state rfl rfl | exact o_alloc zero_b14 rfl rfl | exact o_cpents rfl rfl rfl rfl rfl rfl (by omega) | exact o_alloc zero_Ans rfl rfl | exact o_bsll zero_Ans rfl rfl rfl rfl rfl rfl rfl rfl | exact o_bsll zero_Opn rfl rfl rfl rfl rfl rfl rfl rfl)); (focus (first | exact want_n | exact want_g rfl (by with_reducible rfl)))) | (apply Ws; (focus (first | exact o_stin rfl (by simp) rfl rfl (by first | omega | (simp; omega)) rfl | exact o_stbar rfl (by simp) rfl rfl (by first | omega | (simp; omega)) rfl | exact ok_store tabT (d := none) rfl rfl rfl rfl rfl rfl rfl rfl rfl rfl)); (focus (first | exact want_n | exact want_g rfl (by with_reducible rfl)))) | (refine Wskip (by first | exact want_f rfl (by with_reducible exact b_nt) | exact want_f rfl (by with_reducible exact b_nf) | exact want_t rfl) rfl ?_) | refine Wgt rfl rfl (by first | assumption | omega | exact rfl) ?_ | refine Wgf rfl rfl (by first | assumption | omega | exact rfl) ?_ | (refine Wgb rfl rfl (by with_reducible assumption) ?_) | (refine cb_is _ (by assumption) ?_))))); exact kHid.out) : Q := h ⟨k⟩
section
variable {E : Env} {nt : Nat} {ops : Array Oper} {T : Nat → Option AV} {H : Hp} {d : Option Nat} {ty : TypeId} {pos : String} {af : Array Edge} {gd : Option (Nat × Bool)}
theorem o_ccalld {f : FuncId} {x : Operand} {l : List Operand} {ats : Array TypeId} {caps xs ys : List AV} {y : AV} {H1 H2 : List (Nat × Bx)} (s : List (Nat × Nat)) (hc : CCall f ys H1 y H2) (hyd : dataA y = true) (hd : dOk nt d = true)
    (hxf : evalO T x = some (.fn (.func f) [] caps)) (hx : argsA T l = some xs) (hnt : xs.all notTup = true) (hw : WkGL (sg s) H1 (xs ++ caps) ys)
    (hn : NamesOk (sg s) H H1 H1) (hfr : FreshOk (sg s) H H1 H2) (ho : OutB (sg s) H1 H2 = true) (hi : nodupB (H1.map fun p => sg s p.1) = true) :
    OpOK Try.prog E nt ops ⟨d, .call { callee := .value x, args := l.toArray, argTypes := ats }, ty, pos, af, gd⟩ T H ((H1.map fun p => sg s p.1)) ⟨y, outW (sg s) H2⟩ := by
  obtain ⟨h1, h2⟩ := ren_data (sg s) y hyd
  have := o_ccall (E := E) (nt := nt) (ops := ops) (T := T) (H := H) (d := d) (ty := ty) (pos := pos) (af := af) (gd := gd) (ats := ats) s hc hd hxf hx hnt hw hn hfr ho hi (by rw [h2]; rfl)
  rwa [h1] at this
end
attribute [local irreducible] OpOK AWops AW CondB Go2 AFn thenA inBlockA noGotoA orderOk wantedA
set_option maxRecDepth 100000 in
set_option maxHeartbeats 4000000 in
theorem c_rstep (l : List Cal) (hl : l.length ≤ 14) (R : List Bool → List Ent → List Ky → Rs) (N : Nat) (d : List Bool) (hd : d.length = 14) (m : List Ent) (hm : Lf m) (hml : m.length + und l d 0 ≤ 14) (T : List Ky) (hT : ∀ k ∈ T, KyOk k) (hTN : T.length + 1 + und l d 0 * N ≤ 1000000000000)
    (hR : ∀ i m' T', i < l.length → dOf d i = false → Lf m' → m'.length + und l (d.set i true) 0 ≤ 14 → (∀ k ∈ T', KyOk k) → T'.length + N ≤ 1000000000000 → (∀ k ∈ (R (d.set i true) m' T').2, KyOk k) ∧ (R (d.set i true) m' T').2.length ≤ T'.length + N ∧ (restO (R (d.set i true) m' T').1).length ≤ 14 ∧
      CFn Try.prog 29 [.ptr 1000 0 [], boolsA ((d.set i true).take l.length), intA (msk (d.set i true) : Nat), entsA m'] (bxS l T') (.tup [numsA (restO (R (d.set i true) m' T').1), boolA (R (d.set i true) m' T').1.isSome]) (bxS l (R (d.set i true) m' T').2)) :
    CFn Try.prog 29 [.ptr 1000 0 [], boolsA (d.take l.length), intA (msk d : Nat), entsA m] (bxS l T) (.tup [numsA (restO (fmB l R d m T).1), boolA (fmB l R d m T).1.isSome]) (bxS l (fmB l R d m T).2) := by
  have hdt : (d.take l.length).length = l.length := by rw [List.length_take]; omega
  have hov : ovr l d = whl l (dOf (d.take l.length)) := (ovr_whl hl hd).trans (whl_congr fun k hk => (dOf_take hk).symm)
  have co := a_refover l (by omega) (d.take l.length) hdt
  have hnt : (!true) = false := rfl
  have hnf : (!false) = true := rfl
  cases hw : whl l (dOf (d.take l.length))
  case true =>
    rw [hw] at co hov
    rw [show fmB l R d m T = (some [], T) by unfold fmB; rw [if_pos hov]]
    have d1 := acall Try.func38 (co) (by decide +kernel) (by decide +kernel)
    refine CFn_intro Try.func29 rfl Try.ntmps29 rfl (by simp) [_, _] rfl fun E hE => ?_; have hnt : (!true) = false := rfl; have hnf : (!false) = true := rfl
    refine wOB ?_
    exact finc ⟨⟨(by repeat' (first | exact True.intro | rfl | apply And.intro)), rfl⟩, rc_nil rfl, rc_of rfl rfl rfl, trivial⟩
  case false =>
  rw [hw] at co hov
  have hkk : KyOk (d, m) := ⟨hd, by show m.length ≤ 14; omega, hm.ok⟩
  have cs := c_refseen l T hT (by omega) (d, m) hkk
  by_cases hin : (d, m) ∈ T
  · rw [show fmB l R d m T = (none, T) by unfold fmB; rw [if_neg (by rw [hov]; simp), if_pos hin]]
    rw [decide_eq_true hin, show seenT T (d, m) = T from if_pos hin] at cs
    have d1 := acall Try.func38 (co) (by decide +kernel) (by decide +kernel)
    have d2 := ccall Try.func47 (cs) (by decide +kernel) (by decide +kernel)
    refine CFn_intro Try.func29 rfl Try.ntmps29 rfl (by simp) [_, _] rfl fun E hE => ?_; have hnt : (!true) = false := rfl; have hnf : (!false) = true := rfl
    refine wOB ?_
    (apply WcN [1000, 1001] [1000, 1001]; (focus (exact o_ccalld [(1000, 1000), (1001, 1001)] d2 rfl rfl rfl rfl rfl (by repeat (first | exact .nil | refine .cons (.inl ⟨rfl, rfl⟩) ?_ | refine .cons (.inr ⟨rfl, fun _ => Wk.tok⟩) ?_)) (by repeat' (first | exact True.intro | rfl | apply And.intro)) (by repeat' (first | exact True.intro | rfl | apply And.intro)) rfl rfl)); (focus (exact rfl)); (focus (exact rfl)); (focus (first | exact want_n | exact want_g rfl (by with_reducible rfl))))
    refine wOB ?_
    exact finc ⟨⟨(by repeat' (first | exact True.intro | rfl | apply And.intro)), rfl⟩, rc_nil rfl, rc_of rfl rfl rfl, trivial⟩
  · have hB : fmB l R d m T = fmL l R d m (List.range l.length) (T ++ [(d, m)]) := by unfold fmB; rw [if_neg (by rw [hov]; simp), if_neg hin]
    rw [hB]
    rw [decide_eq_false hin, show seenT T (d, m) = T ++ [(d, m)] from if_neg hin] at cs
    have d1 := acall Try.func38 (co) (by decide +kernel) (by decide +kernel)
    have d2 := ccall Try.func47 (cs) (by decide +kernel) (by decide +kernel)
    refine CFn_intro Try.func29 rfl Try.ntmps29 rfl (by simp) [_, _] rfl fun E hE => ?_; have hnt : (!true) = false := rfl; have hnf : (!false) = true := rfl
    refine wOB ?_
    (apply WcN [1000, 1001] [1000, 1001]; (focus (exact o_ccalld [(1000, 1000), (1001, 1001)] d2 rfl rfl rfl rfl rfl (by repeat (first | exact .nil | refine .cons (.inl ⟨rfl, rfl⟩) ?_ | refine .cons (.inr ⟨rfl, fun _ => Wk.tok⟩) ?_)) (by repeat' (first | exact True.intro | rfl | apply And.intro)) (by repeat' (first | exact True.intro | rfl | apply And.intro)) rfl rfl)); (focus (exact rfl)); (focus (exact rfl)); (focus (first | exact want_n | exact want_g rfl (by with_reducible rfl))))
    refine wOB ?_
    generalize hF : fmL l R d m (List.range l.length) (T ++ [(d, m)]) = F
    refine AW_loopI (fun x : Nat × List Ky => ⟨[(0, .ptr 1000 0 []), (1, boolsA (d.take l.length)), (2, intA (msk d : Nat)), (3, entsA m), (10, intA (x.1 : Nat))], bxS l x.2⟩) (fun x => x.1 ≤ l.length ∧ (∀ k ∈ x.2, KyOk k) ∧ fmL l R d m (List.range' x.1 (l.length - x.1)) x.2 = F ∧ x.2.length + und l d x.1 * N ≤ 1000000000000) (fun x => l.length - x.1) (0, T ++ [(d, m)]) ⟨Nat.zero_le _, fun k hk => ?_, ?_, ?_⟩ (by (refine Go2.sub ⟨?_, ?_, ?_⟩ <;> repeat' (first | exact True.intro | rfl | apply And.intro))) (fun x hx => ?_)
    · rw [List.mem_append, List.mem_singleton] at hk
      rcases hk with hk | rfl
      · exact hT k hk
      · exact hkk
    · rw [← hF, List.range_eq_range']; rfl
    · rw [List.length_append, List.length_singleton]; exact hTN
    obtain ⟨j, U⟩ := x
    obtain ⟨hj, hU, hFj, hUN⟩ := hx
    dsimp only at hj hU hFj hUN ⊢
    by_cases c : j < l.length
    · have hr : fmL l R d m (List.range' j (l.length - j)) U = fmL l R d m (j :: List.range' (j + 1) (l.length - (j + 1))) U := by rw [show l.length - j = (l.length - (j + 1)) + 1 by omega, List.range'_succ]
      rw [hr] at hFj
      have hus := und_step (d := d) c
      have cf := a_reffree l (by omega) (d.take l.length) hdt j c
      rw [dOf_take c, rdy_congr fun k hk => dOf_take hk] at cf
      have cd := a_refstep m l[j] hm (by omega)
      have hlf := doC_lf hm l[j]
      have hln := doC_len m l[j]
      have hat : atC l j = l[j] := (atC_get c).symm
      rcases hdo : doC m l[j] with ⟨m2, ok⟩
      rw [hdo] at cd hlf hln
      dsimp only at cd hlf hln
      have d4 := acall Try.func37 (cd) (by decide +kernel) (by decide +kernel)
      cases hdj : dOf d j
      case true =>
        rw [hdj, show (!true && rdy l j (dOf d)) = false from rfl] at cf
        have hF2 : fmL l R d m (List.range' (j + 1) (l.length - (j + 1))) U = F := by
          rw [← hFj]; simp [fmL, hdj]
        rw [hdj] at hus
        have d3 := acall Try.func36 (cf) (by decide +kernel) (by decide +kernel)
        refine wOB ?_
        refine ⟨(j + 1, U), ⟨c, hU, hF2, by rw [hus] at hUN; exact hUN⟩, by show l.length - (j + 1) < l.length - j; omega, ?_⟩
        (refine Go2.sub ⟨?_, ?_, ?_⟩ <;> repeat' (first | exact True.intro | rfl | apply And.intro))
      case false =>
      rw [hdj, show (!false && rdy l j (dOf d)) = rdy l j (dOf d) from rfl] at cf
      rw [hdj] at hus
      have hmul : (und l d (j + 1) + 1) * N = und l d (j + 1) * N + N := Nat.succ_mul _ _
      have hUN2 : U.length + (und l d (j + 1) * N + N) ≤ 1000000000000 := by
        rw [hus] at hUN
        rw [← hmul]; exact hUN
      cases hrd : rdy l j (dOf d)
      case false =>
        rw [hrd] at cf
        have hF2 : fmL l R d m (List.range' (j + 1) (l.length - (j + 1))) U = F := by
          rw [← hFj]; simp [fmL, hdj, hrd]
        have d3 := acall Try.func36 (cf) (by decide +kernel) (by decide +kernel)
        refine wOB ?_
        refine ⟨(j + 1, U), ⟨c, hU, hF2, by show U.length + und l d (j + 1) * N ≤ _; omega⟩, by show l.length - (j + 1) < l.length - j; omega, ?_⟩
        (refine Go2.sub ⟨?_, ?_, ?_⟩ <;> repeat' (first | exact True.intro | rfl | apply And.intro))
      case true =>
      rw [hrd] at cf
      have d3 := acall Try.func36 (cf) (by decide +kernel) (by decide +kernel)
      cases ok
      case false =>
        have hF2 : fmL l R d m (List.range' (j + 1) (l.length - (j + 1))) U = F := by
          rw [← hFj]; simp [fmL, hdj, hrd, hat, hdo]
        refine wOB ?_
        refine ⟨(j + 1, U), ⟨c, hU, hF2, by show U.length + und l d (j + 1) * N ≤ _; omega⟩, by show l.length - (j + 1) < l.length - j; omega, ?_⟩
        (refine Go2.sub ⟨?_, ?_, ?_⟩ <;> repeat' (first | exact True.intro | rfl | apply And.intro))
      case true =>
      have hXl : (d.take l.length).length = ((d.take l.length).set j true).length := (List.length_set ..).symm
      have hX : ((d.take l.length).set j true) = (d.set j true).take l.length := List.take_set.symm
      have hms : msk d ||| 2 ^ j = msk (d.set j true) := msk_set (by omega)
      obtain ⟨k1, k2, k3, k4⟩ := hR j m2 U c hdj hlf (by have := und_set (d := d) c (by omega) hdj; omega) hU (by omega)
      have hjp : 2 ^ j < 16384 := (Nat.pow_lt_pow_right (by omega) (by omega) : 2 ^ j < 2 ^ 14)
      have hmd := msk_small hd
      rcases hRR : R (d.set j true) m2 U with ⟨rs, U2⟩
      rw [hRR] at k1 k2 k3 k4
      dsimp only at k1 k2 k3 k4
      have d5 := ccall Try.func29 (k4) (by decide +kernel) (by decide +kernel)
      repeat (first | (refine AW_go (S' := ⟨[(13, .own 57 1 (d.take l.length).length .row), (0, .ptr 1000 0 []), (1, boolsA (d.take l.length)), (2, intA (msk d : Nat)), (3, entsA m), (10, intA (j : Nat)), (11, entsA m2)], (57, .own 4 1 (((d.take l.length).set j true).map boolA)) :: bxS l U⟩) ?_ ?_; (focus ((refine Go2.sub ⟨?_, ?_, ?_⟩ <;> repeat' (first | exact True.intro | rfl | apply And.intro)); done)); rw [hXl, hX]; refine AW_go (Go2.thaw (S' := ⟨[(13, .sl (some 57) 1 (((d.set j true).take l.length).map boolA)), (0, .ptr 1000 0 []), (1, boolsA (d.take l.length)), (2, intA (msk d : Nat)), (3, entsA m), (10, intA (j : Nat)), (11, entsA m2)], (57, .tail 4 1 (((d.set j true).take l.length).map boolA).length) :: bxS l U⟩) 57 rfl (by repeat' (first | exact True.intro | rfl | apply And.intro | (simp; done))) (by repeat' (first | exact True.intro | rfl | apply And.intro | (simp; done))) rfl) ?_) | refine wOBs ?_)
      (apply Wv; (focus (exact o_cvuj ⟨_, Try.underlying3⟩ Try.underlying103 rfl rfl (by omega))); (focus (first | exact want_n | exact want_g rfl (by with_reducible rfl))))
      (apply Wv; (focus (exact o_shl1 rfl rfl rfl (by omega))); (focus (first | exact want_n | exact want_g rfl (by with_reducible rfl))))
      (apply Wv; (focus (exact o_ori rfl rfl rfl hmd hjp)); (focus (first | exact want_n | exact want_g rfl (by with_reducible rfl))))
      rw [hms]
      refine wOB ?_
      (apply WcN [1000, 1001] [1000, 1001]; (focus (exact o_ccalld [(1000, 1000), (1001, 1001)] d5 rfl rfl rfl rfl rfl (by repeat (first | exact .nil | refine .cons (.inl ⟨rfl, rfl⟩) ?_ | refine .cons (.inr ⟨rfl, fun _ => Wk.tok⟩) ?_)) (by repeat' (first | exact True.intro | rfl | apply And.intro)) (by repeat' (first | exact True.intro | rfl | apply And.intro)) rfl rfl)); (focus (exact rfl)); (focus (exact rfl)); (focus (first | exact want_n | exact want_g rfl (by with_reducible rfl))))
      cases rs with
      | some q =>
        have hF2 : F = (some (j :: q), U2) := by
          rw [← hFj]; simp [fmL, hdj, hrd, hat, hdo, hRR]
        subst hF2
        have hq : q.length ≤ 14 := k3
        refine wOB ?_
        exact finc ⟨⟨(by repeat' (first | exact True.intro | rfl | apply And.intro)), rfl⟩, rc_sl rfl, rc_of rfl rfl rfl, trivial⟩
      | none =>
        have hF2 : fmL l R d m (List.range' (j + 1) (l.length - (j + 1))) U2 = F := by
          rw [← hFj]; simp [fmL, hdj, hrd, hat, hdo, hRR]
        refine wOB ?_
        refine ⟨(j + 1, U2), ⟨c, k1, hF2, by show U2.length + und l d (j + 1) * N ≤ _; omega⟩, by show l.length - (j + 1) < l.length - j; omega, ?_⟩
        (refine Go2.sub ⟨?_, ?_, ?_⟩ <;> repeat' (first | exact True.intro | rfl | apply And.intro))
    · obtain rfl : j = l.length := by omega
      rw [Nat.sub_self] at hFj
      have hFj : F = (none, U) := hFj.symm
      subst hFj
      refine wOB ?_
      exact finc ⟨⟨(by repeat' (first | exact True.intro | rfl | apply And.intro)), rfl⟩, rc_nil rfl, rc_of rfl rfl rfl, trivial⟩
end Go.Proofs.Ytphojngdgmnpaaa

namespace Go.Proofs.Ytphojngdgmnpaaa
open Go Go.RowKit
set_option linter.unusedVariables false
set_option linter.unusedSimpArgs false
set_option maxRecDepth 100000
section
variable {E : Env} {nt : Nat} {ops : Array Oper} {T : Nat → Option AV} {H : Hp} {d : Option Nat} {ty : TypeId} {pos : String} {af : Array Edge} {gd : Option (Nat × Bool)}
/-- a row made of zeros, as a list -/
theorem ok_make_tl {t e : TypeId} {es bytes : Nat} {ea : Bool} {x y : Operand} {k k' : IntKind} {n : Nat} {z : AV} {g : Nat} (hd : dOk nt d = true) (hs : tabT.ti t = some (.sl e (es + 1) bytes ea)) (hz : zeroT e = some z) (hx : evalO T x = some (.v (.int k (n : Nat)))) (hy : evalO T y = some (.v (.int k' (n : Nat)))) (hg : H g = none) (hb : bytes * n ≤ 140737488355328) (hn : n ≤ 4611686018427387904) :
    OpOK Try.prog E nt ops ⟨d, .makeSlice t x y, ty, pos, af, gd⟩ T H [] ⟨.sl (some g) (es + 1) (List.replicate n z), [(g, .tail e (es + 1) n)]⟩ :=
  ok_eff hd fun B T' H' a w r ht hh hw' => by
    have hg' : H' g = none := (hw' (g, .tail e (es + 1) n) (by simp)).trans hg
    have e1 := r.evalv ((ht x (by simp [Op.operands])).trans hx)
    have e2 := r.evalv ((ht y (by simp [Op.operands])).trans hy)
    obtain ⟨_, hu, hte, i, zv, z1, z2, z3, z4, z5⟩ := tabT.ok t _ hs
    obtain ⟨i', zv', y1, y2, y3⟩ := zeroT_ok hz
    rw [z1] at y1; injection y1 with y1; subst y1
    rw [z2] at y2; injection y2 with y2; subst y2
    have hrun := run_make (P := Try.prog) w t e i zv hu z1 z2 k k' n n (by omega) (Int.le_refl _) (by rw [z4]; exact imul_le _ _ hb) (by omega)
    simp only [Int.toNat_natCast, z3] at hrun
    have hm := made_rdu (U := unst E B H') (w := w) (y3 _ _) (by rw [z5]; omega) n
    rw [z5] at hm
    have hsz : (madeCells zv.cells (n * (es + 1))).toList.length = n * (es + 1) := by simp [size_madeCells]
    obtain ⟨q1, q2⟩ := r.newRow (e := e) (k := n) (cap := n) (ys := List.replicate n z) (cs := (madeCells zv.cells (n * (es + 1))).toList) hg' (Nat.succ_pos es) (by rw [List.length_replicate, List.take_of_length_le (Nat.le_of_eq hsz)]; exact hm) (by simp) hsz (Nat.le_refl _) (by unfold maxLen; omega)
    rw [Array.toArray_toList] at q1 q2
    have hfin : (execOp a.eval ⟨d, .makeSlice t x y, ty, pos, af, gd⟩).run Try.prog w = .ok (.value (.slice (some ⟨w.heap.size, 0, none⟩) n n)) (w.alloc (.cells (madeCells zv.cells (n * (es + 1))) e)) := by
      simp [execOp, e1, e2, hrun]
    exact ⟨_, _, _, hfin, q1, by rw [Rdv_not (by simp)]; exact ⟨_, q2, rfl⟩⟩
end
theorem fm_ok2 {l : List Cal} : ∀ (f : Nat) (d : List Bool) (m : List Ent) (T : List Ky), d.length = 14 → l.length ≤ 14 → und l d 0 ≤ f → Lf m → m.length + und l d 0 ≤ 14 → (∀ k ∈ T, KyOk k) → ∀ k ∈ (fm l f d m T).2, KyOk k := by
  have main : ∀ (R : List Bool → List Ent → List Ky → Rs) (d : List Bool) (m : List Ent) (T : List Ky), d.length = 14 → Lf m → m.length + und l d 0 ≤ 14 → (∀ k ∈ T, KyOk k) →
      (∀ i m' T', i < l.length → dOf d i = false → Lf m' → m'.length ≤ m.length + 1 → (∀ k ∈ T', KyOk k) → ∀ k ∈ (R (d.set i true) m' T').2, KyOk k) → ∀ k ∈ (fmB l R d m T).2, KyOk k := by
    intro R d m T hd hm hml hT hR
    unfold fmB
    split
    · exact hT
    · split
      · exact hT
      · refine fmL_ok (fun i T' hi hd h => hR i _ T' hi hd (doC_lf hm _) (doC_len m (atC l i)) h) _ _ (fun i hi => List.mem_range.1 hi) fun k hk => ?_
        rw [List.mem_append, List.mem_singleton] at hk
        rcases hk with hk | rfl
        · exact hT k hk
        · exact ⟨hd, by show m.length ≤ 14; omega, hm.ok⟩
  intro f
  induction f with
  | zero =>
    intro d m T hd hl hf hm hml hT
    exact main _ d m T hd hm hml hT fun i m' T' hi h0 => by have := und_set (d := d) hi (by omega) h0; omega
  | succ f ih =>
    intro d m T hd hl hf hm hml hT
    refine main _ d m T hd hm hml hT fun i m' T' hi h0 h1 h2 h3 => ?_
    have := und_set (d := d) hi (by omega) h0
    exact ih (d.set i true) m' T' (by simpa using hd) hl (by omega) h1 (by omega) h3
theorem c_reffrom (l : List Cal) (hl : l.length ≤ 14) : ∀ (f : Nat) (d : List Bool) (m : List Ent) (T : List Ky), d.length = 14 → und l d 0 ≤ f → Lf m → m.length + und l d 0 ≤ 14 → (∀ k ∈ T, KyOk k) → T.length + nd f ≤ 1000000000000 →
    CFn Try.prog 29 [.ptr 1000 0 [], boolsA (d.take l.length), intA (msk d : Nat), entsA m] (bxS l T) (.tup [numsA (restO (fm l f d m T).1), boolA (fm l f d m T).1.isSome]) (bxS l (fm l f d m T).2)
  | 0, d, m, T, hd, hf, hm, hml, hT, hTN => c_rstep l hl _ 0 d hd m hm hml T hT (by unfold nd at hTN; rw [Nat.mul_zero]; exact hTN) fun i m' T' hi h0 => by
    have := und_set (d := d) hi (by omega) h0; omega
  | f + 1, d, m, T, hd, hf, hm, hml, hT, hTN => c_rstep l hl (fm l f) (nd f) d hd m hm hml T hT (by
      have h : T.length + (1 + (f + 1) * nd f) ≤ 1000000000000 := hTN
      have := Nat.mul_le_mul_right (nd f) hf
      omega) fun i m' T' hi h0 h1 h2 h3 h4 => by
    have hu := und_set (d := d) hi (by omega) h0
    have hd' : (d.set i true).length = 14 := by simpa using hd
    have hlen := fm_len hl f (d.set i true) m' T' hd' (by omega)
    have := und_le l (d.set i true) 0
    exact ⟨fm_ok2 f _ _ _ hd' hl (by omega) h1 h2 h3, hlen.1, by have := hlen.2; omega, c_reffrom l hl f (d.set i true) m' T' hd' (by omega) h1 h2 h3 h4⟩
theorem srch_tok (l : List Cal) (g : Nat) (e : TypeId) (U : Uns) (w : World) (B : Blk) (H' : Hp) (cs : List Value) (hg : H' g = some (.tail e 2 0)) (hb : B g = none) (h : Rd U w (.agg 3 [calsA l, .v (.slice none 0 0), intA 0]) B H' cs) : Rd U w (.agg 3 [calsA l, .sl (some g) (1 + 1) [], intA 0]) B H' cs := by
  have q := nil_token (U := U) (w := w) hg hb
  simp only [Rd, Rds] at h q ⊢
  obtain ⟨h1, c1, c2, rfl, k1, d1, d2, rfl, ⟨_, rfl⟩, k3⟩ := h
  exact ⟨h1, c1, _, rfl, k1, _, d2, rfl, q, k3⟩
theorem msk_zero (n : Nat) : msk (List.replicate n false) = 0 := by
  induction n with
  | zero => rfl
  | succ n ih => rw [List.replicate_succ, msk_cons, ih]; rfl
attribute [local irreducible] OpOK AWops AW CondB Go2 AFn thenA inBlockA noGotoA orderOk wantedA
set_option maxRecDepth 100000 in
set_option maxHeartbeats 4000000 in
theorem a_reffind (l : List Cal) : AFn Try.prog 14 [calsA l] (.tup [numsA (ordO [] (findC l)), boolA (findC l).isSome]) := by
  by_cases h14 : 14 < l.length
  · have hf : findC l = none := by unfold findC; rw [if_pos h14]
    rw [hf]
    refine AFn_intro Try.func14 rfl Try.ntmps14 rfl (by simp) [_, _] rfl fun E hE => ?_
    refine wSS ?_
    exact fin ⟨res_nil rfl, res_of rfl rfl rfl, trivial⟩
  have hl : l.length ≤ 14 := by omega
  have hf : findC l = (fm l 14 (inn []) [] []).1 := by unfold findC; rw [if_neg h14]
  rw [hf, restO_ordO]
  have hin : (inn []).length = 14 := inn_len []
  have hc := c_reffrom l hl 14 (inn []) [] [] hin (Nat.le_trans (und_le _ _ _) (by omega)) lf_nil (by have := und_le l (inn []) 0; simp; omega) (by simp) (by rw [nd14]; decide)
  have ht : (inn []).take l.length = List.replicate l.length false := by rw [inn_nil, List.take_replicate]; congr 1; omega
  have hk : msk (inn []) = 0 := by rw [inn_nil, msk_zero]
  have hbz : boolsA (List.replicate l.length false) = .sl none 1 (List.replicate l.length (boolA false)) := by unfold boolsA; rw [List.map_replicate]
  rw [ht, hk, hbz] at hc
  have d1 := ccall Try.func29 (hc) (by decide +kernel) (by decide +kernel)
  refine AFn_intro Try.func14 rfl Try.ntmps14 rfl (by simp) [_, _] rfl fun E hE => ?_
  have hnt : (!true) = false := rfl
  have hnf : (!false) = true := rfl
  repeat (first | (refine AW_go (Go2.tokenX (x0 := .agg 3 [calsA l, .v (.slice none 0 0), intA 0]) (y0 := .agg 3 [calsA l, .sl (some 16) (1 + 1) [], intA 0]) 10 16 1 118 rfl rfl (srch_tok l 16 _)) ?_) | (apply Wv; (focus (exact o_bld zero_refsearch rfl rfl rfl rfl rfl rfl rfl)); (focus (first | exact want_n | exact want_g rfl (by with_reducible rfl)))) | (apply Wb; (focus (exact ok_make_tl (g := 14) rfl rfl rfl rfl rfl rfl (by omega) (by omega))); (focus (first | exact want_n | exact want_g rfl (by with_reducible rfl)))) | refine wSSo ?_)
  (apply WcN [10, 16] [10, 16]; (focus (exact o_ccalld [(1000, 10), (1001, 16)] d1 rfl rfl rfl rfl rfl (by repeat (first | exact .nil | refine .cons (.inl ⟨rfl, rfl⟩) ?_ | refine .cons (.inr ⟨rfl, fun _ => Wk.tok⟩) ?_ | refine .cons (.inr ⟨rfl, fun _ => Wk.nil⟩) ?_)) (by repeat' (first | exact True.intro | rfl | apply And.intro)) (by repeat' (first | exact True.intro | rfl | apply And.intro)) rfl rfl)); (focus (exact rfl)); (focus (exact rfl)); (focus (first | exact want_n | exact want_g rfl (by with_reducible rfl))))
  refine wSS ?_
  exact fin ⟨res_sl rfl, res_of rfl rfl rfl, trivial⟩
end Go.Proofs.Ytphojngdgmnpaaa

namespace Go.Proofs.Ytphojngdgmnpaaa
open Go Go.RowKit
set_option linter.unusedVariables false
set_option linter.unusedSimpArgs false
set_option maxRecDepth 100000
def don (n : Nat) (p : List Int) : List Bool := (List.range n).map fun k : Nat => decide ((k : Int) ∈ p)
@[simp] theorem don_len (n : Nat) (p : List Int) : (don n p).length = n := by simp [don]
attribute [local irreducible] OpOK AWops AW CondB Go2 AFn thenA inBlockA noGotoA orderOk wantedA
end Go.Proofs.Ytphojngdgmnpaaa

namespace Go.Proofs.Ytphojngdgmnpaaa
open Go Go.RowKit
set_option linter.unusedVariables false
set_option linter.unusedSimpArgs false
set_option maxRecDepth 100000
/-- is a row of places an order from here on? -/
def pth (l : List Cal) : List Bool → List Ent → List Nat → Bool
  | d, m, [] => ovr l d
  | d, m, i :: is => decide (i < l.length) && !dOf d i && rdy l i (dOf d) && (doC m (atC l i)).2 && pth l (d.set i true) (doC m (atC l i)).1 is
def dead (l : List Cal) (k : Ky) : Prop := ∀ s, pth l k.1 k.2 s = false
/-! ### found, an order -/
theorem fmL_sound {l : List Cal} {R : List Bool → List Ent → List Ky → Rs} {d : List Bool} {m : List Ent}
    (hR : ∀ i m' T' s T'', R (d.set i true) m' T' = (some s, T'') → pth l (d.set i true) m' s = true) :
    ∀ (is : List Nat) (T : List Ky) (s : List Nat) (T' : List Ky), (∀ i ∈ is, i < l.length) → fmL l R d m is T = (some s, T') → pth l d m s = true
  | [], T, s, T', _, h => by simp [fmL] at h
  | i :: is, T, s, T', hi, h => by
    have ih := fun T0 => fmL_sound (m := m) hR is T0 s T' (fun i h => hi i (by simp [h]))
    unfold fmL at h
    split at h
    · exact ih _ h
    · rename_i h1
      split at h
      · rename_i h2
        split at h
        · rename_i q T2 he
          injection h with h3 h4
          injection h3 with h3
          subst h3
          have hlt := hi i (by simp)
          have h5 : dOf d i = false ∧ rdy l i (dOf d) = true := by cases e1 : dOf d i <;> cases e2 : rdy l i (dOf d) <;> simp_all
          unfold pth
          rw [decide_eq_true hlt, h5.1, h5.2, h2, hR _ _ _ _ _ he]
          rfl
        · exact ih _ h
      · exact ih _ h
theorem fmB_sound {l : List Cal} {R : List Bool → List Ent → List Ky → Rs} {d : List Bool} {m : List Ent} {T : List Ky} {s : List Nat} {T' : List Ky}
    (hR : ∀ i m' T' s T'', R (d.set i true) m' T' = (some s, T'') → pth l (d.set i true) m' s = true) (h : fmB l R d m T = (some s, T')) : pth l d m s = true := by
  unfold fmB at h
  split at h
  · rename_i h1
    injection h with h2 _
    injection h2 with h2
    subst h2
    exact h1
  · split at h
    · injection h with h2 _; cases h2
    · exact fmL_sound hR _ _ _ _ (fun i hi => List.mem_range.1 hi) h
theorem fm_sound {l : List Cal} : ∀ (f : Nat) (d : List Bool) (m : List Ent) (T : List Ky) (s : List Nat) (T' : List Ky), fm l f d m T = (some s, T') → pth l d m s = true
  | 0, d, m, T, s, T', h => fmB_sound (fun i m' T' s T'' h => by cases h) h
  | f + 1, d, m, T, s, T', h => fmB_sound (R := fm l f) (fun i m' T' s T'' h => fm_sound f _ _ _ _ _ h) h
/-! ### nothing found, no order -/
theorem fmL_none {l : List Cal} {R : List Bool → List Ent → List Ky → Rs} {d : List Bool} {m : List Ent} (P : List Ky → Prop) (hP : ∀ T T', P T → (∀ k ∈ T', k ∈ T ∨ dead l k) → P T')
    (hR : ∀ i m' T' T'', i < l.length → dOf d i = false → P T' → R (d.set i true) m' T' = (none, T'') → dead l (d.set i true, m') ∧ ∀ k ∈ T'', k ∈ T' ∨ dead l k) :
    ∀ (is : List Nat) (T T' : List Ky), (∀ i ∈ is, i < l.length) → P T → fmL l R d m is T = (none, T') → (∀ i ∈ is, ∀ q, pth l d m (i :: q) = false) ∧ ∀ k ∈ T', k ∈ T ∨ dead l k
  | [], T, T', _, _, h => by
    simp only [fmL] at h
    injection h with _ h
    subst h
    exact ⟨fun i hi => (by cases hi), fun k hk => .inl hk⟩
  | i :: is, T, T', hi, hT, h => by
    have hlt := hi i (by simp)
    have ih := fun T0 => fmL_none (m := m) P hP hR is T0 T' (fun i h => hi i (by simp [h]))
    have cons : ∀ {T0 : List Ky}, (∀ q, pth l d m (i :: q) = false) → ((∀ i ∈ is, ∀ q, pth l d m (i :: q) = false) ∧ ∀ k ∈ T', k ∈ T0 ∨ dead l k) → (∀ k ∈ T0, k ∈ T ∨ dead l k) → (∀ j ∈ i :: is, ∀ q, pth l d m (j :: q) = false) ∧ ∀ k ∈ T', k ∈ T ∨ dead l k := by
      intro T0 h1 h2 h3
      refine ⟨fun j hj => ?_, fun k hk => ?_⟩
      · rcases List.mem_cons.1 hj with rfl | hj
        · exact h1
        · exact h2.1 j hj
      · rcases h2.2 k hk with h4 | h4
        · exact h3 k h4
        · exact .inr h4
    unfold fmL at h
    split at h
    · rename_i h1
      refine cons (fun q => ?_) (ih _ hT h) fun k hk => .inl hk
      unfold pth
      cases e1 : dOf d i <;> cases e2 : rdy l i (dOf d) <;> simp_all
    · rename_i h1
      have h5 : dOf d i = false ∧ rdy l i (dOf d) = true := by cases e1 : dOf d i <;> cases e2 : rdy l i (dOf d) <;> simp_all
      split at h
      · rename_i h2
        split at h
        · rename_i q T2 he
          injection h with h3 _; cases h3
        · rename_i T2 he
          obtain ⟨g1, g2⟩ := hR i _ T T2 hlt h5.1 hT he
          refine cons (fun q => ?_) (ih _ (hP _ _ hT g2) h) g2
          unfold pth
          have g3 : pth l (d.set i true) (doC m (atC l i)).1 q = false := g1 q
          rw [g3, Bool.and_false]
      · rename_i h2
        refine cons (fun q => ?_) (ih _ hT h) fun k hk => .inl hk
        unfold pth
        have h6 : (doC m (atC l i)).2 = false := by cases e : (doC m (atC l i)).2 <;> simp_all
        rw [h6, Bool.and_false, Bool.false_and]
theorem fmB_none {l : List Cal} {R : List Bool → List Ent → List Ky → Rs} {d : List Bool} (hd : d.length = 14) (hl : l.length ≤ 14) {m : List Ent} {T T' : List Ky} (hT : ∀ k ∈ T, dead l k ∨ und l d 0 < und l k.1 0)
    (hR : ∀ i m' T' T'', i < l.length → dOf d i = false → (∀ k ∈ T', dead l k ∨ und l (d.set i true) 0 < und l k.1 0) → R (d.set i true) m' T' = (none, T'') → dead l (d.set i true, m') ∧ ∀ k ∈ T'', k ∈ T' ∨ dead l k)
    (h : fmB l R d m T = (none, T')) : dead l (d, m) ∧ ∀ k ∈ T', k ∈ T ∨ dead l k := by
  unfold fmB at h
  split at h
  · injection h with h1 _; cases h1
  · rename_i h1
    have h1 : ovr l d = false := by cases e : ovr l d <;> simp_all
    split at h
    · rename_i h2
      injection h with _ h3
      subst h3
      refine ⟨?_, fun k hk => .inl hk⟩
      rcases hT _ h2 with h4 | h4
      · exact h4
      · exact absurd h4 (Nat.lt_irrefl _)
    · rename_i h2
      have hstep := fmL_none (m := m) (fun U => ∀ k ∈ U, dead l k ∨ und l d 0 < und l k.1 0 ∨ k = (d, m)) (fun U U' hU h k hk => by
        rcases h k hk with h | h
        · exact hU k h
        · exact .inl h) (fun i m' U U' hi h0 hU he => hR i m' U U' hi h0 (fun k hk => by
          have hs := und_set (d := d) hi (by omega) h0
          rcases hU k hk with h | h | h
          · exact .inl h
          · exact .inr (by omega)
          · subst h; exact .inr (by show und l (d.set i true) 0 < und l d 0; omega)) he) (List.range l.length) (T ++ [(d, m)]) T' (fun i hi => List.mem_range.1 hi) (fun k hk => by
        rw [List.mem_append, List.mem_singleton] at hk
        rcases hk with hk | hk
        · rcases hT k hk with h | h
          · exact .inl h
          · exact .inr (.inl h)
        · exact .inr (.inr hk)) h
      have hdead : dead l (d, m) := fun s => by
        cases s with
        | nil => exact h1
        | cons i q =>
          by_cases hi : i < l.length
          · exact hstep.1 i (List.mem_range.2 hi) q
          · show pth l d m (i :: q) = false
            unfold pth
            rw [decide_eq_false hi]; rfl
      refine ⟨hdead, fun k hk => ?_⟩
      rcases hstep.2 k hk with h3 | h3
      · rw [List.mem_append, List.mem_singleton] at h3
        rcases h3 with h3 | rfl
        · exact .inl h3
        · exact .inr hdead
      · exact .inr h3
theorem fm_none {l : List Cal} (hl : l.length ≤ 14) : ∀ (f : Nat) (d : List Bool) (m : List Ent) (T T' : List Ky), d.length = 14 → und l d 0 ≤ f → (∀ k ∈ T, dead l k ∨ und l d 0 < und l k.1 0) → fm l f d m T = (none, T') → dead l (d, m) ∧ ∀ k ∈ T', k ∈ T ∨ dead l k
  | 0, d, m, T, T', hd, hf, hT, h => fmB_none hd hl hT (fun i m' T' T'' hi h0 => by have := und_set (d := d) hi (by omega) h0; omega) h
  | f + 1, d, m, T, T', hd, hf, hT, h => fmB_none (R := fm l f) hd hl hT (fun i m' U U' hi h0 hU he => by
      have := und_set (d := d) hi (by omega) h0
      exact fm_none hl f (d.set i true) m' U U' (by simpa using hd) (by omega) hU he) h
/-- **the search**: what it finds is an order; where it finds none there is none -/
theorem findC_some {l : List Cal} {s : List Nat} (h : findC l = some s) : l.length ≤ 14 ∧ pth l (inn []) [] s = true := by
  unfold findC at h
  split at h
  · cases h
  · rename_i h14
    refine ⟨by omega, ?_⟩
    rcases he : fm l 14 (inn []) [] [] with ⟨r, T'⟩
    rw [he] at h
    have h : r = some s := h
    subst h
    exact fm_sound 14 _ _ _ _ _ he
theorem findC_none {l : List Cal} (hl : l.length ≤ 14) (h : findC l = none) (s : List Nat) : pth l (inn []) [] s = false := by
  unfold findC at h
  rw [if_neg (by omega)] at h
  rcases he : fm l 14 (inn []) [] [] with ⟨r, T'⟩
  rw [he] at h
  have h : r = none := h
  subst h
  exact (fm_none hl 14 (inn []) [] [] T' (inn_len []) (Nat.le_trans (und_le _ _ _) (by omega)) (fun k hk => by cases hk) he).1 s
theorem findC_is {l : List Cal} (hl : l.length ≤ 14) {s : List Nat} (h : pth l (inn []) [] s = true) : ∃ q, findC l = some q ∧ pth l (inn []) [] q = true := by
  cases hf : findC l with
  | none => rw [findC_none hl hf s] at h; cases h
  | some q => exact ⟨q, rfl, (findC_some hf).2⟩
/-! ### as it is looked at -/
theorem legGo_pth {l : List Cal} (hl : l.length ≤ 14) : ∀ (s : List Nat) (d : List Bool) (m : List Ent) (pre : List Int), d.length = 14 → (∀ k, k < l.length → dOf d k = decide ((k : Int) ∈ pre)) → legGo l m pre (s.map fun k : Nat => (k : Int)) = pth l d m s
  | [], d, m, pre, hd, hp => by
    show whl l _ = ovr l d
    rw [ovr_whl hl hd]
    exact whl_congr fun k hk => (hp k hk).symm
  | i :: s, d, m, pre, hd, hp => by
    rw [List.map_cons]
    unfold legGo pth
    by_cases hi : i < l.length
    · have ih := legGo_pth hl s (d.set i true) (doC m (atC l i)).1 (pre ++ [(i : Int)]) (by simpa using hd) fun k hk => by
        rw [dOf_set (by omega), hp k hk]
        rw [← Bool.decide_or, decide_eq_decide, List.mem_append, List.mem_singleton, or_comm]
        exact or_congr Iff.rfl (by omega)
      have hr : rdy l i (fun k => decide ((k : Int) ∈ pre)) = rdy l i (dOf d) := rdy_congr fun k hk => (hp k hk).symm
      rw [Int.toNat_natCast, hr, ih, decide_eq_true hi, Bool.true_and]
      have hpi := hp i hi
      have n1 : ¬ (i : Int) < 0 := by omega
      have n2 : ¬ (l.length : Int) ≤ (i : Int) := by omega
      cases hd' : dOf d i
      · rw [hd'] at hpi
        have n3 : ¬ (i : Int) ∈ pre := fun h => by rw [decide_eq_true h] at hpi; cases hpi
        cases hr' : rdy l i (dOf d)
        · rw [if_pos (.inr (.inr (.inr rfl)))]; rfl
        · rw [if_neg (by simp [n1, n2, n3])]
          cases (doC m (atC l i)).2 <;> simp
      · rw [hd'] at hpi
        have n3 : (i : Int) ∈ pre := of_decide_eq_true hpi.symm
        rw [if_pos (.inr (.inr (.inl n3)))]; rfl
    · rw [if_pos (.inr (.inl (by omega))), decide_eq_false hi]; rfl
theorem dOf_nil {k : Nat} (h : k < 14) : dOf (inn []) k = false := by rw [dOf_inn h]; simp
theorem legC_pth {l : List Cal} (hl : l.length ≤ 14) (s : List Nat) : legC l (s.map fun k : Nat => (k : Int)) = pth l (inn []) [] s :=
  legGo_pth hl s (inn []) [] [] (inn_len []) fun k hk => by rw [dOf_nil (by omega)]; simp
end Go.Proofs.Ytphojngdgmnpaaa

namespace Go.Proofs.Ytphojngdgmnpaaa
open Go Go.RowKit
set_option linter.unusedVariables false
set_option linter.unusedSimpArgs false
set_option maxRecDepth 100000
section
variable {E : Env} {nt : Nat} {ops : Array Oper} {T : Nat → Option AV} {H : Hp} {d : Option Nat} {ty : TypeId} {pos : String} {af : Array Edge} {gd : Option (Nat × Bool)}
end
def callC (o : Opn) (f t : Int) (a : Ans) : Cal := ⟨0, 0, o, f, t, a⟩
/-- calls as one by one they would be, each stretched as wide tells, from the i-th on -/
def runGo (wide : List (BitVec 8)) : Nat → List Ent → List Int → List Cal
  | _, _, [] => []
  | i, m, v :: vs =>
    let o := lawOp (v.tmod 512 + 512 * ((i : Int) % 2))
    let r := mdDo m o
    (match wide[i]? with
      | some b => callC o (10 * (i : Int) - (b.toNat % 40 : Nat)) (10 * (i : Int) + 1 + (b.toNat / 8 : Nat)) r.2
      | none => callC o (10 * (i : Int)) (10 * (i : Int) + 1) r.2) :: runGo wide (i + 1) r.1 vs
def runC (ops : List Int) (wide : List (BitVec 8)) (most : Nat) : List Cal := runGo wide 0 [] (ops.take most)
attribute [local irreducible] OpOK AWops AW CondB Go2 AFn thenA inBlockA noGotoA orderOk wantedA
set_option maxRecDepth 100000 in
set_option maxHeartbeats 4000000 in
theorem a_call25 (o : Opn) (f t : Int) (a : Ans) : AFn Try.prog 22 [o.av, intA f, intA t, a.av] (callC o f t a).av := by
  refine AFn_intro Try.func22 rfl Try.ntmps22 rfl (by simp) [_] rfl fun E hE => ?_
  refine wSS ?_
  exact fin ⟨res_var rfl rfl rfl rfl, trivial⟩
set_option maxRecDepth 100000 in
set_option maxHeartbeats 4000000 in
theorem a_lsame (a b : List Nat) (ha : a.length ≤ 1000000000) (hb : b.length ≤ 1000000000) : AFn Try.prog 16 [numsA a, numsA b] (boolA (decide (a = b))) := by
  by_cases hl : a.length = b.length
  · have g0 : ¬ ((a.length : Nat) : Int) ≠ (b.length : Nat) := by omega
    refine AFn_intro Try.func16 rfl Try.ntmps16 rfl (by simp) [_] rfl fun E hE => ?_
    refine wSS ?_
    refine AW_loopI (fun j : Nat => ⟨[(0, numsA a), (1, numsA b), (5, intA (j : Nat))], []⟩) (fun j => j ≤ a.length ∧ a.take j = b.take j) (fun j => a.length - j) 0 ⟨Nat.zero_le _, rfl⟩ (by (refine Go2.sub ⟨?_, ?_, ?_⟩ <;> repeat' (first | exact True.intro | rfl | apply And.intro))) (fun j hj => ?_)
    obtain ⟨hj, he⟩ := hj
    by_cases c : j < a.length
    · have cb : j < b.length := by omega
      by_cases q : a[j] = b[j]
      · have g1 : ¬ ((a[j] : Nat) : Int) ≠ (b[j] : Nat) := by omega
        refine wSS ?_
        refine ⟨j + 1, ⟨c, ?_⟩, by omega, ?_⟩
        · rw [List.take_succ_eq_append_getElem c, List.take_succ_eq_append_getElem cb, he, q]
        · (refine Go2.sub ⟨?_, ?_, ?_⟩ <;> repeat' (first | exact True.intro | rfl | apply And.intro))
      · have g1 : ((a[j] : Nat) : Int) ≠ (b[j] : Nat) := by omega
        have hn : ¬ a = b := fun e => q (by subst e; rfl)
        rw [decide_eq_false hn]
        refine wSS ?_
        exact fin ⟨res_of rfl rfl rfl, trivial⟩
    · have hn : a = b := by
        rw [List.take_of_length_le (by omega), List.take_of_length_le (by omega)] at he
        exact he
      rw [decide_eq_true hn]
      refine wSS ?_
      exact fin ⟨res_of rfl rfl rfl, trivial⟩
  · have g0 : ((a.length : Nat) : Int) ≠ (b.length : Nat) := by omega
    have hn : ¬ a = b := fun e => hl (by rw [e])
    rw [decide_eq_false hn]
    refine AFn_intro Try.func16 rfl Try.ntmps16 rfl (by simp) [_] rfl fun E hE => ?_
    refine wSS ?_
    exact fin ⟨res_of rfl rfl rfl, trivial⟩
end Go.Proofs.Ytphojngdgmnpaaa

namespace Go.Proofs.Ytphojngdgmnpaaa
open Go Go.RowKit
set_option linter.unusedVariables false
set_option linter.unusedSimpArgs false
set_option maxRecDepth 100000
set_option linter.unusedSectionVars false
section
variable {E : Env} {nt : Nat} {ops : Array Oper} {T : Nat → Option AV} {H : Hp} {d : Option Nat} {ty : TypeId} {pos : String} {af : Array Edge} {gd : Option (Nat × Bool)}
theorem ok_bsl_ownZ {t e : TypeId} {es bytes len : Nat} {ea : Bool} {l : List (Nat × Operand)} {vs : List (Nat × AV)} {z : AV} {out : List AV} {g : Nat} (hd : dOk nt d = true) (hs : tabT.ti t = some (.sl e (es + 1) bytes ea)) (hz : ZeroOk Try.prog e z) (hv : partsA T l = some vs) (ho : fillA vs (List.replicate (len + 1) z) = some out) (hg : H g = none)
    (hdt : ∀ H', WkL H' out out) (hsz : out.all (fun x => Nat.beq (sizeA x) (es + 1)) = true) (hlen : out.length = len + 1) (hsmall : Nat.ble ((len + 1) * (es + 1)) 16777216 = true) :
    OpOK Try.prog E nt ops ⟨d, .buildSlice t (len + 1) l.toArray, ty, pos, af, gd⟩ T H [] ⟨.own g (es + 1) (len + 1) .row, [(g, .own e (es + 1) out)]⟩ :=
  ok_eff hd fun B T' H' a w r ht hh hw' => by
    have hg' : H' g = none := (hw' (g, .own e (es + 1) out) (by simp)).trans hg
    obtain ⟨_, hu, hte, i, zv, z1, z2, z3, z4, z5⟩ := tabT.ok t _ hs
    obtain ⟨i', zv', y1, y2, y3⟩ := hz
    rw [z1] at y1; injection y1 with y1; subst y1
    rw [z2] at y2; injection y2 with y2; subst y2
    have hzr := y3 (unst E B H') w
    have hzl : sizeA z = es + 1 := by rw [← Rd_len hzr]; simpa using z5
    have hm := Rdu_rds (Rdu_go (Evo.refl _ w) (fun _ _ _ h => h) _ _ ⟨fun g b h _ => by simp [H0, isVar] at h, fun g h => by simp [H0, isVar] at h, fun t n len A cap h => by obtain ⟨e, k, h, _⟩ := h; simp [H0] at h, fun g n len k v h => by obtain ⟨e, xs, h, _⟩ := h; simp [H0] at h⟩ (made_rdu (U := unst E B H') (w := w) hzr (by rw [z5]; omega) (len + 1)) : Rdu (unst E B H') w zv.cells.size (List.replicate (len + 1) z) B H' _)
    have hv' := parts_agree hv (T' := T') (fun p hp => ht p.2 (by simp [Op.operands]; exact ⟨p.1, hp⟩))
    have hsum : ∀ k i, sumS ((List.replicate k z).take i) = min i k * (es + 1) := by
      intro k
      induction k with
      | zero => intro i; simp [sumS]
      | succ k ih =>
        intro i
        cases i with
        | zero => simp [sumS]
        | succ i => simp only [List.replicate_succ, List.take_succ_cons, sumS, ih, hzl]; rw [Nat.succ_min_succ, Nat.succ_mul]; omega
    obtain ⟨cells', q1, q2⟩ := fill_rds r l vs _ out _ hv' ho (place := fun i => some (i * (es + 1), es + 1)) (fun i y h => by
      have hlt := (List.getElem?_eq_some_iff.1 h).1
      simp at hlt
      rw [List.getElem?_replicate, if_pos hlt] at h
      injection h with h
      subst h
      rw [hsum, hzl]
      have : min i (len + 1) = i := by omega
      rw [this]) hm
    have hszl : ∀ x ∈ out, sizeA x = es + 1 := fun x hx => Nat.eq_of_beq_eq_true (List.all_eq_true.1 hsz x hx)
    have hrdu := (hdt H').rdu (Rds_rdu q2 hszl)
    have hcl := Rdu_len hrdu
    have hsm : (len + 1) * (es + 1) ≤ 16777216 := Nat.le_of_ble_eq_true hsmall
    have hlm : len + 1 ≤ (len + 1) * (es + 1) := Nat.le_mul_of_pos_right _ (Nat.succ_pos es)
    obtain ⟨k1, k2⟩ := r.newOwn (e := e) hg' (Nat.succ_pos es) hrdu (by rw [hlen]; unfold maxLen; omega)
    rw [hlen] at k2
    have hbs := run_buildSlice (P := Try.prog) w t e (len + 1) (l.map fun p => (p.1, a.eval p.2)).toArray cells'.toArray i zv hu z1 z2 (by rw [z3]; omega) (by rw [z3]; have := Nat.mul_pos (Nat.succ_pos len) (Nat.succ_pos es); omega) (by
      rw [z3]
      have := fill_of_fillS _ _ _ q1
      rw [Array.toArray_toList] at this
      have e1 : madeCells zv.cells ((len + 1) * zv.cells.size) = (Array.range ((len + 1) * (es + 1))).map (zv.cells[· % zv.cells.size]!) := by rw [← z5]; rfl
      rw [e1] at this
      simpa using this)
    refine ⟨_, _, _, ?_, k1, own_i k2⟩
    have hmm : (Array.map (fun x => (x.1, a.eval x.2)) l.toArray) = (l.map fun p => (p.1, a.eval p.2)).toArray := by simp
    simp only [execOp, hmm, Sem.run_bind, hbs]
    rfl
end
section
variable {P : Program} {E : Env} {nt : Nat} {ops : Array Oper} {T : Nat → Option AV} {H : Hp} {d : Option Nat} {ty : TypeId} {pos : String} {af : Array Edge} {gd : Option (Nat × Bool)}
/-- a call of one that only reads, of whose results but the second is wanted -/
theorem ok_rdtup {f : FuncId} {fn : Func} {args : List Operand} {ats : Array TypeId} {xs ys : List AV} {y : Value} {g n k : Nat} {e : TypeId} {zs ys0 : List AV} (gs : List Nat) (hgm : g ∈ gs) (hgo : H g = some (.own e n zs)) (hz0 : 0 < zs.length) (hd : dOk nt d = true) (hf : P.funcs[f]? = some fn) (hb : fn.body.isSome = true) (hnm : (fn.name == "runtime.NumGoroutine") = false)
    (hx : args.map (evalO T) = xs.map some) (hc : AFn P f ys (.tup [.sl none k ys0, .v y])) (hw : ∀ H', (∀ g ∈ gs, H' g = H g) → OwL H' xs ys) (hnt : xs.all notTup = true) : OpOK P E nt ops ⟨d, .call { callee := .value (.func f), args := args.toArray, argTypes := ats }, ty, pos, af, gd⟩ T H gs ⟨.tup [.own g n 0 .row, .v y], []⟩ := by
  intro T' H' ht hh _ B a w r K Q hK
  have hargs : ∀ (l : List Operand) (zs : List AV), (∀ o ∈ l, o ∈ args) → l.map (evalO T) = zs.map some → (∀ z ∈ zs, ∀ us, z ≠ .tup us) → Rdp (unst E B H') w zs B H' (l.map a.eval) := by
    intro l
    induction l with
    | nil =>
      intro zs _ h _
      have : zs = [] := by simpa using h.symm
      subst this
      simp [Rdp]
    | cons o l ih =>
      intro zs hm h hn
      cases zs with
      | nil => simp at h
      | cons z zs =>
        simp only [List.map_cons, List.cons.injEq] at h
        have ho := r.eval ((agree_op ht (x := o) (by simp [Op.operands, Call.operands]; right; simpa using hm o List.mem_cons_self)).trans h.1)
        rw [Rdv_not (hn z List.mem_cons_self)] at ho
        obtain ⟨c, h1, h2⟩ := ho
        simp only [List.map_cons, Rdp]
        exact ⟨c, _, by rw [h2], h1, ih zs (fun o ho => hm o (List.mem_cons_of_mem _ ho)) h.2 (fun z hz => hn z (List.mem_cons_of_mem _ hz))⟩
  have hnt' : ∀ z ∈ xs, ∀ us, z ≠ .tup us := fun z hz => notTup_ne (List.all_eq_true.1 hnt z hz)
  have h1 := (hw H' (fun g hg => hh g hg)).rdp r (hargs args xs (fun _ h => h) hx hnt')
  have h2 := hc _ w _ h1
  unfold Oper.wp
  have he : (execOp a.eval ⟨d, .call { callee := .value (.func f), args := args.toArray, argTypes := ats }, ty, pos, af, gd⟩).run P w = .ok (.enter f (args.map a.eval).toArray) w := by
    have hb' : fn.body ≠ none := by cases h : fn.body <;> simp_all
    have hn' : fn.name ≠ "runtime.NumGoroutine" := by simpa using hnm
    have ha : (args.map a.eval).toArray = args.toArray.map a.eval := by apply Array.ext'; simp
    rw [ha]
    simp [execOp, resolve, Deferred.ofValue, Act.eval, invoke, callFunc, hf, hn', hb']
  rw [he]
  refine Calls.mono h2 ?_
  rintro e w' ⟨v, rfl, h3, h4⟩
  rw [Rdv_tup] at h3
  obtain ⟨vs, rfl, h3⟩ := h3
  simp only [Rdp] at h3
  obtain ⟨c1, vs1, rfl, h5, c2, vs2, rfl, h6, rfl⟩ := h3
  simp only [Rd] at h5 h6
  obtain ⟨A, cap, rfl, _⟩ := h5
  obtain ⟨hpl, rfl⟩ := h6
  refine hK B _ w' ((r.ext h4).put hd ?_)
  rw [Rdv_tup]
  refine ⟨_, rfl, ?_⟩
  simp only [Rdp, Rd]
  exact ⟨[.slice A ys0.length cap], _, rfl, ⟨_, ⟨e, zs, (hh g hgm).trans hgo, Nat.zero_le _, rfl, fun h => absurd h (by omega)⟩, rfl⟩, [y], [], rfl, ⟨hpl, rfl⟩, rfl⟩
end
section
variable {E : Env} {nt : Nat} {ops : Array Oper} {T : Nat → Option AV} {H : Hp} {d : Option Nat} {ty : TypeId} {pos : String} {af : Array Edge} {gd : Option (Nat × Bool)}
theorem o_rdtup {f : FuncId} {l : List Operand} {ats : Array TypeId} {xs ys : List AV} {y : Value} {g n k : Nat} {e : TypeId} {zs ys0 : List AV} (gs : List Nat) (hc : ACall f ys (.tup [.sl none k ys0, .v y])) (hgm : g ∈ gs) (hgo : H g = some (.own e n zs)) (hz0 : 0 < zs.length) (hd : dOk nt d = true) (hx : argsA T l = some xs) (hw : ∀ H', (∀ g ∈ gs, H' g = H g) → OwL H' xs ys) (hnt : xs.all notTup = true) :
    OpOK Try.prog E nt ops ⟨d, .call { callee := .value (.func f), args := l.toArray, argTypes := ats }, ty, pos, af, gd⟩ T H gs ⟨.tup [.own g n 0 .row, .v y], []⟩ := by
  obtain ⟨fn, h1, h2, h3, h4⟩ := hc
  exact ok_rdtup gs hgm hgo hz0 hd h1 h2 h3 (argsA_map hx) h4 hw hnt
end
/-! ### the first sentence, in plain words -/
theorem set_none (k : Key) (o : Option Vl) : lfSet [] k o = newE k o := by simp [lfSet]
theorem get_one (k : Key) (v : Vl) : lfGet k [⟨k, v⟩] = some v := by simp [lfGet]
theorem get_zero (k : Key) : lfGet k [] = none := rfl
theorem do_put0 (s t : ByteArray) (hs : s.size ≤ 8) (ht : t.size ≤ 16) : mdDo [] ⟨1, s, t, 0#64⟩ = ([⟨(keyOf s).1, (vlOf t).1⟩], ⟨0, false, Vl.zero⟩) := by
  unfold mdDo large
  rw [if_neg (by simp; omega), if_neg (by simp), if_neg (by simp)]
  unfold lfPut msgOf
  simp only [set_none, get_zero, ap, if_true, newE]
theorem do_get1 (s t : ByteArray) (v : Vl) (n : BitVec 64) (hs : s.size ≤ 8) : mdDo [⟨(keyOf s).1, v⟩] ⟨4, s, t, n⟩ = ([⟨(keyOf s).1, v⟩], ⟨0, true, v⟩) := by
  unfold mdDo large
  rw [if_neg (by simp; omega), if_pos rfl]
  simp only [get_one, opA]
def txA : ByteArray := { data := #[97] }
def tx1 : ByteArray := { data := #[49] }
def vOne : Vl := (vlOf tx1).1
def opPut : Opn := ⟨1, txA, tx1, 0#64⟩
def opGet : Opn := ⟨4, txA, .empty, 0#64⟩
def aw0 : List Cal := [callC opPut 0 1 Ans.zero, callC opGet 2 3 Ans.zero]
def aw1 : List Cal := [callC opPut 0 1 Ans.zero, callC opGet 2 3 ⟨0, true, vOne⟩]
theorem vOne_eq : vOne = mkVl [49#8] := rfl
theorem aw_put : mdDo [] opPut = ([⟨(keyOf txA).1, vOne⟩], ⟨0, false, Vl.zero⟩) := do_put0 txA tx1 (by decide) (by decide)
theorem aw_get : mdDo [⟨(keyOf txA).1, vOne⟩] opGet = ([⟨(keyOf txA).1, vOne⟩], ⟨0, true, vOne⟩) := do_get1 txA .empty vOne 0#64 (by decide)
theorem pth_cons (l : List Cal) (d : List Bool) (m : List Ent) (i : Nat) (is : List Nat) : pth l d m (i :: is) = (decide (i < l.length) && !dOf d i && rdy l i (dOf d) && (doC m (atC l i)).2 && pth l (d.set i true) (doC m (atC l i)).1 is) := rfl
theorem pth_lt {l : List Cal} {d : List Bool} {m : List Ent} {i : Nat} {is : List Nat} (h : pth l d m (i :: is) = true) : i < l.length := by
  rw [pth_cons] at h
  simp only [Bool.and_eq_true, decide_eq_true_eq] at h
  exact h.1.1.1.1
theorem doC_put (f t : Int) (ht : 0 ≤ t) : doC [] (callC opPut f t Ans.zero) = ([⟨(keyOf txA).1, vOne⟩], true) := by
  unfold doC callC
  dsimp only
  rw [if_neg (by omega), if_neg (by decide), if_neg (by decide), aw_put]
  rw [show decide ((⟨0, false, Vl.zero⟩ : Ans) = Ans.zero) = true from decide_eq_true rfl]
theorem doC_get (f t : Int) (ht : 0 ≤ t) (a : Ans) (hc : a.code = 0) : doC [⟨(keyOf txA).1, vOne⟩] (callC opGet f t a) = ([⟨(keyOf txA).1, vOne⟩], decide ((⟨0, true, vOne⟩ : Ans) = a)) := by
  unfold doC callC
  dsimp only
  rw [if_neg (by omega), if_neg (by rw [hc]; decide), if_neg (by rw [hc]; decide), aw_get]
theorem aw0_dead (s : List Nat) : pth aw0 (inn []) [] s = false := by
  match s with
  | [] => decide
  | 0 :: q =>
    rw [pth_cons, show atC aw0 0 = callC opPut 0 1 Ans.zero from rfl, doC_put 0 1 (by decide)]
    have : pth aw0 ((inn []).set 0 true) [⟨(keyOf txA).1, vOne⟩] q = false := by
      match q with
      | [] => decide
      | 0 :: r => rw [pth_cons, show dOf ((inn []).set 0 true) 0 = true from rfl]; simp
      | 1 :: r =>
        rw [pth_cons, show atC aw0 1 = callC opGet 2 3 Ans.zero from rfl, doC_get 2 3 (by decide) _ rfl, show decide ((⟨0, true, vOne⟩ : Ans) = Ans.zero) = false from decide_eq_false (fun e => by injection e with _ e; cases e)]
        simp
      | (k + 2) :: r => rw [pth_cons, decide_eq_false (show ¬ k + 2 < aw0.length by show ¬ k + 2 < 2; omega)]; simp
    rw [this, Bool.and_false]
  | 1 :: q => rw [pth_cons, show rdy aw0 1 (dOf (inn [])) = false from by decide]; simp
  | (k + 2) :: q => rw [pth_cons, decide_eq_false (show ¬ k + 2 < aw0.length by show ¬ k + 2 < 2; omega)]; simp
theorem aw0_none : findC aw0 = none := by
  cases h : findC aw0 with
  | none => rfl
  | some s =>
    have := (findC_some h).2
    rw [aw0_dead] at this
    cases this
theorem aw1_01 : pth aw1 (inn []) [] [0, 1] = true := by
  rw [pth_cons, show atC aw1 0 = callC opPut 0 1 Ans.zero from rfl, doC_put 0 1 (by decide), pth_cons, show atC aw1 1 = callC opGet 2 3 ⟨0, true, vOne⟩ from rfl, doC_get 2 3 (by decide) _ rfl, decide_eq_true rfl]
  decide
theorem aw1_only (s : List Nat) (h : pth aw1 (inn []) [] s = true) : s = [0, 1] := by
  match s with
  | [] => exact absurd h (by decide)
  | 0 :: q =>
    rw [pth_cons, show atC aw1 0 = callC opPut 0 1 Ans.zero from rfl, doC_put 0 1 (by decide)] at h
    simp only [Bool.and_eq_true] at h
    have h := h.2
    match q with
    | [] => exact absurd h (by decide)
    | 0 :: r => rw [pth_cons, show dOf ((inn []).set 0 true) 0 = true from rfl] at h; simp at h
    | 1 :: r =>
      rw [pth_cons, show atC aw1 1 = callC opGet 2 3 ⟨0, true, vOne⟩ from rfl, doC_get 2 3 (by decide) _ rfl] at h
      simp only [Bool.and_eq_true] at h
      have h := h.2
      match r with
      | [] => rfl
      | k :: r =>
        have hk := pth_lt h
        have hk : k < 2 := hk
        rw [pth_cons] at h
        match k with
        | 0 => rw [show dOf (((inn []).set 0 true).set 1 true) 0 = true from rfl] at h; simp at h
        | 1 => rw [show dOf (((inn []).set 0 true).set 1 true) 1 = true from rfl] at h; simp at h
        | k + 2 => omega
    | (k + 2) :: r => have := pth_lt h; have : k + 2 < 2 := this; omega
  | 1 :: q => rw [pth_cons, show rdy aw1 1 (dOf (inn [])) = false from by decide] at h; simp at h
  | (k + 2) :: q => have := pth_lt h; have : k + 2 < 2 := this; omega
theorem aw1_some : findC aw1 = some [0, 1] := by
  obtain ⟨q, h1, h2⟩ := findC_is (l := aw1) (by decide) aw1_01
  rw [h1, aw1_only q h2]
theorem aw1_leg : legC aw1 [0, 1] = true := (legC_pth (l := aw1) (by decide) [0, 1]).trans aw1_01
theorem aw1_leg' : legC aw1 [1, 0] = false := by
  refine (legC_pth (l := aw1) (by decide) [1, 0]).trans ?_
  rw [pth_cons, show rdy aw1 1 (dOf (inn [])) = false from by decide]; simp
theorem vOne_list : (padded 16 [49#8]).toList = 49#8 :: List.replicate 15 0#8 := by decide
theorem vOne_av : vOne.av = .agg 17 [intA 1, .arr 16 1 (.v (.int .u8 49) :: List.replicate 15 (.v (.int .u8 0)))] := by
  have b49 : byteA 49#8 = .v (.int .u8 49) := by unfold byteA; rw [B8_def]; rfl
  have b0 : byteA 0#8 = .v (.int .u8 0) := by unfold byteA; rw [B8_def]; rfl
  rw [vOne_eq]
  unfold Vl.av mkVl vecA
  dsimp only
  rw [vOne_list, List.map_cons, List.map_replicate, b49, b0]
  rfl
theorem zero_b16 : ZeroOk Try.prog 40 (.arr 16 1 (List.replicate 16 (.v (.int .u8 0)))) := zero_of (v := .agg (List.replicate 16 (Value.int .u8 0)).toArray) (n := 16) (by kernel_rfl) fun U w => by
  have e1 := (rdu_cells (av := fun _ : Nat => AV.v (.int .u8 0)) (cell := fun _ => Value.int .u8 0) (fun _ => rfl) (fun _ => rfl) (List.replicate 16 0) (U := U) (w := w) (B := B0) (H := H0)).2 rfl
  simp only [Rd]
  exact ⟨rfl, e1⟩
attribute [local irreducible] OpOK AWops AW CondB Go2 AFn thenA inBlockA noGotoA orderOk wantedA
set_option maxRecDepth 100000 in
set_option maxHeartbeats 8000000 in
theorem a_awake25 : AFn Try.prog 12 [] (boolA true) := by
  have k1 := a_call25 opPut 0 1 Ans.zero
  have k2 := a_call25 opGet 2 3 Ans.zero
  have f0 := a_find aw0
  rw [aw0_none] at f0
  have f1 := a_find aw1
  have f2 := a_least aw1
  rw [aw1_some] at f1 f2
  have f3 := a_legal aw1 [0, 1] (by decide) (by decide)
  have f4 := a_legal aw1 [1, 0] (by decide) (by decide)
  rw [aw1_leg] at f3
  rw [aw1_leg'] at f4
  refine AFn_intro Try.func12 rfl Try.ntmps12 rfl (by simp) [_] rfl fun E hE => ?_
  have hnt : (!true) = false := rfl
  have hnf : (!false) = true := rfl
  have c1 := acall Try.func22 (k1) (by decide +kernel) (by decide +kernel)
  have c2 := acall Try.func22 (k2) (by decide +kernel) (by decide +kernel)
  repeat (first | (apply Wb; (focus (exact ok_bsl_ownZ (g := 18) rfl rfl zero_Cal rfl rfl rfl (fun H' => by (repeat (first | exact wkl0 | refine wkd rfl ?_ | refine wkt ?_ | refine wkn ?_)); done) rfl rfl rfl)); (focus (first | exact want_n | exact want_g rfl (by with_reducible rfl)))) | refine wSSo ?_)
  have f0' : AFn Try.prog 13 [.sl none 27 (aw0.map Cal.av)] (.tup [.sl none 1 [], .v (.bool false)]) := f0
  have e0 := acall Try.func13 (f0') (by decide +kernel) (by decide +kernel)
  (apply WvN [18]; (focus (exact o_rdtup (g := 18) [18] e0 (by simp) rfl (by decide) rfl rfl (fun H' hh => .own ((hh 18 (by simp)).trans rfl) rfl .nil) rfl)); (focus (exact rfl)); (focus (first | exact want_n | exact want_g rfl (by with_reducible rfl))))
  repeat refine wSSo ?_
  (apply Wv; (focus (exact o_blda zero_b16 rfl rfl rfl rfl rfl rfl rfl rfl rfl)); (focus (first | exact want_n | exact want_g rfl (by with_reducible rfl))))
  iterate 1 refine wSSo ?_
  refine Was 27 vOne.av (by rw [vOne_av]; rfl) ?_
  have f1' : AFn Try.prog 13 [.sl none 27 (aw1.map Cal.av)] (.tup [.sl none 1 [intA 0, intA 1], .v (.bool true)]) := f1
  have f2' : AFn Try.prog 15 [.sl none 27 (aw1.map Cal.av)] (.tup [intA 2, .v (.bool true)]) := f2
  have f3' : AFn Try.prog 18 [.sl none 27 (aw1.map Cal.av), .sl none 1 [intA 0, intA 1]] (.v (.bool true)) := f3
  have f4' : AFn Try.prog 18 [.sl none 27 (aw1.map Cal.av), .sl none 1 [intA 1, intA 0]] (.v (.bool false)) := f4
  have e1 := acall Try.func13 (f1') (by decide +kernel) (by decide +kernel)
  have e2 := acall Try.func15 (f2') (by decide +kernel) (by decide +kernel)
  have e3 := acall Try.func18 (f3') (by decide +kernel) (by decide +kernel)
  have e4 := acall Try.func18 (f4') (by decide +kernel) (by decide +kernel)
  clear e0 f0 f0' f1 f2 f3 f4
  repeat (first | (refine AW_go (S' := ⟨[(3, .own 18 27 2 .row), (5, .v (.bool false))], [(18, .own 46 27 (aw1.map Cal.av))]⟩) ?_ ?_; (focus ((refine Go2.sub ⟨?_, ?_, ?_⟩ <;> repeat' (first | exact True.intro | rfl | apply And.intro)); done)); refine AW_go (Go2.thaw (S' := ⟨[(3, .sl (some 18) 27 (aw1.map Cal.av)), (5, .v (.bool false))], [(18, .tail 46 27 (aw1.map Cal.av).length)]⟩) 18 rfl (by repeat' (first | exact True.intro | rfl | apply And.intro | (simp; done))) (by repeat' (first | exact True.intro | rfl | apply And.intro | (simp; done))) rfl) ?_) | (apply Wv; (focus (first | exact ok_idx_own tabT rfl rfl rfl rfl rfl rfl (by decide) (by decide) | exact ok_fld_own tabT rfl rfl rfl rfl (by decide) rfl rfl)); (focus (first | exact want_n | exact want_g rfl (by with_reducible rfl)))) | (apply Ws; (focus (exact ok_store_own tabT (d := none) rfl rfl rfl rfl rfl (by decide) rfl rfl rfl rfl rfl rfl)); (focus (first | exact want_n | exact want_g rfl (by with_reducible rfl)))) | refine wSSo ?_)
  exact fin ⟨res_of rfl rfl rfl, trivial⟩
end Go.Proofs.Ytphojngdgmnpaaa

namespace Go.Proofs.Ytphojngdgmnpaaa
open Go Go.RowKit
set_option linter.unusedVariables false
set_option linter.unusedSimpArgs false
set_option maxRecDepth 100000
/-- each answer is what the map tells, one by one -/
def Chain : List Ent → List Cal → Prop
  | _, [] => True
  | m, c :: cs => (doC m c).2 = true ∧ Chain (doC m c).1 cs
theorem Chain.at : ∀ {cs : List Cal} {m : List Ent}, Chain m cs → ∀ {c : Cal} {r : List Cal}, cs = c :: r → (doC m c).2 = true ∧ Chain (doC m c).1 r
  | _, _, h, _, _, rfl => h
/-- who is ahead of whom stands ahead -/
def Fwd (l : List Cal) : Prop := ∀ k i, k < l.length → i < l.length → before (atC l k) (atC l i) = true → k < i
/-! ### calls as one by one they would be -/
theorem numsA_ints (q : List Nat) : numsA q = intsA (q.map fun k : Nat => (k : Int)) := by unfold numsA intsA; rw [List.map_map]; rfl
theorem pth_nodup {l : List Cal} : ∀ (s : List Nat) (d : List Bool) (m : List Ent), d.length = 14 → l.length ≤ 14 → pth l d m s = true → s.length ≤ und l d 0
  | [], _, _, _, _, _ => Nat.zero_le _
  | i :: s, d, m, hd, hl, h => by
    rw [pth_cons] at h
    simp only [Bool.and_eq_true, decide_eq_true_eq] at h
    obtain ⟨⟨⟨⟨h1, h2⟩, h3⟩, h4⟩, h5⟩ := h
    have h2 : dOf d i = false := by cases e : dOf d i <;> simp_all
    have := pth_nodup s (d.set i true) _ (by simpa using hd) hl h5
    have := und_set (d := d) h1 (by omega) h2
    rw [List.length_cons]; omega
theorem found_len {l : List Cal} {q : List Nat} (h : findC l = some q) : q.length ≤ 14 := by
  obtain ⟨h1, h2⟩ := findC_some h
  have := pth_nodup q (inn []) [] (inn_len []) h1 h2
  have := und_le l (inn []) 0
  omega
attribute [local irreducible] OpOK AWops AW CondB Go2 AFn thenA inBlockA noGotoA orderOk wantedA
end Go.Proofs.Ytphojngdgmnpaaa

namespace Go.Proofs.Ytphojngdgmnpaaa
open Go Go.RowKit
set_option linter.unusedVariables false
set_option linter.unusedSimpArgs false
set_option maxRecDepth 100000
/-- a call by a number: of few keys, under way at once with others, its answer one that may be or not -/
def calN (i : Nat) (v : Int) : Cal :=
  let k := v % 1099511627776
  let o0 := lawOp (k % 4 + k / 4 % 3 * 32)
  let o : Opn := if o0.kind = 3 then { o0 with add := BitVec.ofInt 64 (1 + k / 16384 % 3) } else o0
  let c := callC o (2 * (i : Int)) (2 * (i : Int) + 1 + k / 16 % 7) Ans.zero
  if k / 128 % 8 = 7 then { c with to := -1 }
  else if large o then { c with ans := { Ans.zero with code := 2 } }
  else if o.kind = 4 ∧ k / 1024 % 2 = 0 then { c with ans := { Ans.zero with found := true, val := lawVl (k / 2048 % 3) } }
  else if o.kind ≠ 4 ∧ k / 1024 % 8 = 0 then { c with ans := { Ans.zero with code := 3 } }
  else c
def callsGo : Nat → List Int → List Cal
  | _, [] => []
  | i, v :: vs => calN i v :: callsGo (i + 1) vs
def callsC (l : List Int) (most : Nat) : List Cal := callsGo 0 (l.take most)
attribute [local irreducible] OpOK AWops AW CondB Go2 AFn thenA inBlockA noGotoA orderOk wantedA
end Go.Proofs.Ytphojngdgmnpaaa

namespace Go.Proofs.Ytphojngdgmnpaaa
open Go Go.RowKit
set_option linter.unusedVariables false
set_option linter.unusedSimpArgs false
set_option maxRecDepth 100000
section
variable {E : Env} {nt : Nat} {ops : Array Oper} {T : Nat → Option AV} {H : Hp} {d : Option Nat} {ty : TypeId} {pos : String} {af : Array Edge} {gd : Option (Nat × Bool)}
end
/-- the numbers ahead of a place, but each fifth, within 0 to 6 -/
def mx (j : Nat) (l : List Int) : List Int := (List.range l.length).map fun i => if i < j ∧ 0 < i % 5 then l.getD i 0 % 7 else l.getD i 0
@[simp] theorem mx_len (j : Nat) (l : List Int) : (mx j l).length = l.length := by simp [mx]
attribute [local irreducible] OpOK AWops AW CondB Go2 AFn thenA inBlockA noGotoA orderOk wantedA
end Go.Proofs.Ytphojngdgmnpaaa

namespace Go.Proofs.Ytphojngdgmnpaaa
open Go Go.RowKit
set_option linter.unusedVariables false
set_option linter.unusedSimpArgs false
set_option maxRecDepth 100000
section
variable {E : Env} {nt : Nat} {T : Nat → Option AV} {H : Hp}
theorem Rel.tokenO {B : Blk} {a : Act} {w : World} (r : Rel E nt B T H a w) {g n : Nat} {e : TypeId} (hg : H g = none) (hn : 0 < n) : Rel E nt B T (upd H g (.own e n [])) a w := by
  have hb := r.non g hg
  have pic : Pic w w B B H (upd H g (.own e n [])) := by
    refine ⟨fun _ _ _ h => h, fun j h => ?_, fun t n len A cap h => ?_, ownPic (Evo.refl (fun _ _ => False) w) fun g' e' n' ys h => ?_⟩
    · have hj : j ≠ g := fun e => by rw [e, hg] at h; cases h
      rw [upd_ne _ _ hj]; exact h
    · obtain ⟨e', k, h1, h2⟩ := h
      have hj : t ≠ g := fun e => by rw [e, hg] at h1; cases h1
      exact ⟨e', k, by rw [upd_ne _ _ hj]; exact h1, h2⟩
    · have hne : g' ≠ g := fun e' => by rw [e', hg] at h; cases h
      exact ⟨(upd_ne _ _ hne).trans h, rfl⟩
  refine r.move (Evo.refl _ w) (fun b o _ h => (unst_none hg hb).1 h) pic r.left (fun j bj h => ?_) (fun j h => ?_) (fun j j' b h1 h2 h3 h4 => ?_)
  · by_cases hj : j = g
    · subst hj; rw [upd_same] at h; injection h with h; subst h; exact .inl ⟨hn, Tie.none (r.keep _ hg), .inl ⟨hb, rfl⟩⟩
    · rw [upd_ne _ _ hj] at h
      exact .inr ⟨h, rfl, fun _ _ _ => rfl⟩
  · by_cases hj : j = g
    · subst hj; rw [upd_same] at h; cases h
    · rw [upd_ne _ _ hj] at h; exact ⟨h, r.non j h⟩
  · have hne : ∀ j, B j = some b → j ≠ g := fun j h e => by rw [e, hb] at h; cases h
    rw [upd_ne _ _ (hne j h3)] at h1
    rw [upd_ne _ _ (hne j' h4)] at h2
    exact r.inj j j' b h1 h2 h3 h4
end
theorem Go2.tokenO {E : Env} {nt : Nat} {T : List (Nat × AV)} {H : List (Nat × Bx)} (s g n : Nat) (e : TypeId) (hs : look s T = some (.v (.slice none 0 0))) (hg : look g H = none) : Go2 E nt ⟨T, H⟩ ⟨(s, .own g (n + 1) 0 .row) :: T, (g, .own e (n + 1) []) :: H⟩ := fun B a w r => by
  have r1 := r.tokenO (g := g) (n := n + 1) (e := e) hg (Nat.succ_pos n)
  refine ⟨B, r1.nt, r1.df, fun s' x hx => ?_, fun g' bx h => ?_, fun g' h => ?_, fun g1 g2 b h1 h2 => ?_, r1.left, fun g' h => ?_⟩
  all_goals have eH : St.h ⟨(s, AV.own g (n + 1) 0 .row) :: T, (g, .own e (n + 1) []) :: H⟩ = upd (St.h ⟨T, H⟩) g (.own e (n + 1) []) := look_cons _ _ _
  · have eT : St.t ⟨(s, AV.own g (n + 1) 0 .row) :: T, (g, .own e (n + 1) []) :: H⟩ = upd (St.t ⟨T, H⟩) s (.own g (n + 1) 0 .row) := look_cons _ _ _
    rw [eH]
    rw [eT] at hx
    by_cases h : s' = s
    · subst h
      rw [upd_same] at hx
      injection hx with hx
      subst hx
      obtain ⟨v, h1, h2⟩ := r1.tmp s' _ hs
      rw [Rdv_v] at h2
      refine ⟨v, h1, ?_⟩
      rw [Rdv_not (by simp), h2.2]
      exact ⟨[_], by simp only [Rd]; exact ⟨_, ⟨e, [], upd_same _ _ _, Nat.le_refl _, rfl, fun _ => ⟨fun _ => rfl, fun b hb => by rw [r.non g hg] at hb; cases hb⟩⟩, rfl⟩, rfl⟩
    · rw [upd_ne _ _ h] at hx
      exact r1.tmp s' x hx
  · rw [eH] at h ⊢; exact r1.box g' bx h
  · rw [eH] at h; exact r1.non g' h
  · rw [eH] at h1 h2; exact r1.inj g1 g2 b h1 h2
  · rw [eH] at h; exact r1.keep g' h
def rowM (ops : List Int) (j : Nat) : List Int := (List.range j).map fun i => if i < ops.length then ops.getD i 0 else 3 + 4 * (i : Int)
@[simp] theorem rowM_len (ops : List Int) (j : Nat) : (rowM ops j).length = j := by simp [rowM]
attribute [local irreducible] OpOK AWops AW CondB Go2 AFn thenA inBlockA noGotoA orderOk wantedA
end Go.Proofs.Ytphojngdgmnpaaa

namespace Go.Proofs.Ytphojngdgmnpaaa
open Go Go.RowKit
set_option linter.unusedVariables false
set_option linter.unusedSimpArgs false
set_option maxRecDepth 100000
/-! ### the same search -/
/-! ### shifted -/
def shC (k cl : Int) (i : Nat) (c : Cal) : Cal := ⟨cl, -(i : Int), c.op, 3 * c.frm + k, 3 * c.to + k, c.ans⟩
def shL (k cl : Int) (l : List Cal) (j : Nat) : List Cal := (List.range l.length).map fun i => if i < j then shC k cl i (atC l i) else atC l i
@[simp] theorem shL_len (k cl : Int) (l : List Cal) (j : Nat) : (shL k cl l j).length = l.length := by simp [shL]
section
variable {E : Env} {nt : Nat} {ops : Array Oper} {T : Nat → Option AV} {H : Hp} {d : Option Nat} {ty : TypeId} {pos : String} {af : Array Edge} {gd : Option (Nat × Bool)}
theorem oc_idx {x ix : Operand} {t e : TypeId} {bytes : Nat} {ea : Bool} {g len : Nat} {xs : List Cal} {k : IntKind} {i : Nat} (hd : dOk nt d = true) (hs : tabT.ti t = some (.sl e 27 bytes ea)) (hx : evalO T x = some (.own g 27 len .row)) (hg : H g = some (.own e 27 (xs.map Cal.av))) (hi : evalO T ix = some (.v (.int k (i : Nat)))) (hln : len = xs.length) (hl : i < xs.length) :
    OpOK Try.prog E nt ops ⟨d, .indexAddr t x ix, ty, pos, af, gd⟩ T H [g] ⟨.own g 27 len (.at (i * 27) [i]), []⟩ := by
  have h := ok_idx_own tabT (E := E) (ops := ops) (H := H) (ty := ty) (pos := pos) (af := af) (gd := gd) hd hs hx hg (by simpa using hln) hi (by omega) (by omega)
  rw [Int.toNat_natCast] at h
  exact h
theorem oc_fld {x : Operand} {s e : TypeId} {fd n o sz : Nat} {ag : Bool} {fs : List (Nat × Nat × Bool)} {g len off : Nat} {p : List Nat} {xs : List Cal} (hd : dOk nt d = true) (hx : evalO T x = some (.own g 27 len (.at off p))) (hg : H g = some (.own e 27 (xs.map Cal.av))) (hs : tabT.ti s = some (.st n fs)) (hf : fs[fd]? = some (o, sz + 1, ag)) (hln : len = xs.length) (h0 : 0 < xs.length) :
    OpOK Try.prog E nt ops ⟨d, .fieldAddr s x fd, ty, pos, af, gd⟩ T H [g] ⟨.own g 27 len (.at (off + o) (p ++ [fd])), []⟩ :=
  ok_fld_own tabT hd hx hg (by simpa using hln) (by simpa using h0) hs hf
theorem oc_st {x y : Operand} {t e : TypeId} {g len off i fd o : Nat} {xs : List Cal} {v old : AV} (c' : Cal) (hx : evalO T x = some (.own g 27 len (.at off [i, fd]))) (hy : evalO T y = some v) (hg : H g = some (.own e 27 (xs.map Cal.av))) (hln : len = xs.length) (hl : i < xs.length) (hz : subA [fd] xs[i].av = some old) (ho : offA [fd] xs[i].av = o) (hoff : off = i * 27 + o)
    (hv : setA v [fd] xs[i].av = some c'.av) (hdv : dataA v = true) (hs : tabT.sa t = some (isAggA v, sizeA v)) (hs' : sizeA v = sizeA old) (hnt : notTup v = true) :
    OpOK Try.prog E nt ops ⟨none, .store t x y, ty, pos, af, gd⟩ T H [g] ⟨.tup [], [(g, .own e 27 ((xs.set i c').map Cal.av))]⟩ := by
  refine ok_store_own tabT (d := none) rfl hx hy hg (by simpa using hln) (by simp; omega) (old := old) ?_ ?_ ?_ hs hs' hnt
  · simp only [subA, List.getElem?_map, List.getElem?_eq_getElem hl, Option.map_some]; exact hz
  · simp only [offA, List.getD_eq_getElem?_getD, List.getElem?_map, List.getElem?_eq_getElem hl, Option.map_some, Option.getD_some]
    rw [hoff]; congr 1
  · simp only [setA, List.getElem?_map, List.getElem?_eq_getElem hl, Option.map_some, hdv]
    rw [hv]
    simp [List.map_set]
theorem oc_len {x : Operand} {t e e' : TypeId} {es bytes : Nat} {ea : Bool} {g n len : Nat} {f : Cal → AV} {xs : List Cal} (hs : tabT.ti t = some (.sl e es bytes ea)) (hd : dOk nt d = true) (hx : evalO T x = some (.own g n len .row)) (hg : H g = some (.own e' n (xs.map f))) (hl : len = xs.length) :
    OpOK Try.prog E nt ops ⟨d, .call { callee := .builtin .len, args := #[x], argTypes := #[t] }, ty, pos, af, gd⟩ T H [g] ⟨.v (.int .i64 (len : Nat)), []⟩ := ok_len_own hs hd hx hg (by simpa using hl)
theorem oc2_st {x y : Operand} {t e : TypeId} {g len off i fd o : Nat} {ys : List Cal} {c : Cal} {v old : AV} (c' : Cal) (hx : evalO T x = some (.own g 27 len (.at off [i, fd]))) (hy : evalO T y = some v) (hg : H g = some (.own e 27 ((ys.set i c).map Cal.av))) (hz : subA [fd] c.av = some old) (ho : offA [fd] c.av = o) (hoff : off = i * 27 + o)
    (hv : setA v [fd] c.av = some c'.av) (hdv : dataA v = true) (hs : tabT.sa t = some (isAggA v, sizeA v)) (hs' : sizeA v = sizeA old) (hnt : notTup v = true) (hln : len = ys.length) (hl : i < ys.length) :
    OpOK Try.prog E nt ops ⟨none, .store t x y, ty, pos, af, gd⟩ T H [g] ⟨.tup [], [(g, .own e 27 ((ys.set i c').map Cal.av))]⟩ := by
  have h := oc_st (E := E) (nt := nt) (ops := ops) (T := T) (H := H) (ty := ty) (pos := pos) (af := af) (gd := gd) (t := t) (xs := ys.set i c) (o := o) (old := old) c' hx hy hg (by simpa using hln) (by simpa using hl) (by rw [List.getElem_set_self]; exact hz) (by rw [List.getElem_set_self]; exact ho) hoff (by rw [List.getElem_set_self]; exact hv) hdv hs hs' hnt
  rw [List.set_set] at h
  exact h
end
attribute [local irreducible] OpOK AWops AW CondB Go2 AFn thenA inBlockA noGotoA orderOk wantedA
end Go.Proofs.Ytphojngdgmnpaaa

namespace Go.Proofs.Ytphojngdgmnpaaa
open Go Go.RowKit
set_option linter.unusedVariables false
set_option linter.unusedSimpArgs false
set_option maxRecDepth 100000
set_option linter.unusedSectionVars false
/-- an order that ends as soon as all that must be are done -/
def pth1 (l : List Cal) : List Bool → List Ent → List Nat → Bool
  | d, m, [] => ovr l d
  | d, m, i :: is => !ovr l d && (decide (i < l.length) && !dOf d i && rdy l i (dOf d) && (doC m (atC l i)).2) && pth1 l (d.set i true) (doC m (atC l i)).1 is
/-! ### a put without an answer, a get -/
def txK : ByteArray := { data := #[107] }
def opPv (s : ByteArray) : Opn := ⟨1, txK, s, 0#64⟩
def opGk : Opn := ⟨4, txK, .empty, 0#64⟩
def pnd (s : ByteArray) (f : Int) (a : Ans) : List Cal := [callC (opPv s) f (-1) Ans.zero, callC opGk 3 4 a]
section
variable {s : ByteArray} (hs : s.size ≤ 16)
include hs
end
section
variable {E : Env} {nt : Nat} {ops : Array Oper} {T : Nat → Option AV} {H : Hp} {d : Option Nat} {ty : TypeId} {pos : String} {af : Array Edge} {gd : Option (Nat × Bool)}
end
attribute [local irreducible] OpOK AWops AW CondB Go2 AFn thenA inBlockA noGotoA orderOk wantedA
end Go.Proofs.Ytphojngdgmnpaaa

namespace Go.Proofs.Ytphojngdgmnpaaa
open Go Go.RowKit
set_option linter.unusedVariables false
set_option linter.unusedSimpArgs false
set_option maxRecDepth 100000
set_option linter.unusedSectionVars false
def swp (sa sb : ByteArray) (c : Vl) (f t : Int) : List Cal := [callC (opPv sa) 0 1 Ans.zero, callC (opPv sb) 2 5 Ans.zero, callC opGk f t ⟨0, true, c⟩]
def swx (sa sb : ByteArray) (c : Vl) (f t : Int) : List Cal := swp sa sb c f t ++ [callC opGk 8 9 Ans.zero]
section
variable {sa sb : ByteArray} (ha : sa.size ≤ 16) (hb : sb.size ≤ 16)
include ha hb
end
end Go.Proofs.Ytphojngdgmnpaaa

namespace Go.Proofs.Ytphojngdgmnpaaa
open Go Go.RowKit
set_option linter.unusedVariables false
set_option linter.unusedSimpArgs false
set_option maxRecDepth 100000
set_option linter.unusedSectionVars false
attribute [local irreducible] OpOK AWops AW CondB Go2 AFn thenA inBlockA noGotoA orderOk wantedA
end Go.Proofs.Ytphojngdgmnpaaa

namespace Go.Proofs.Ytphojngdgmnpaaa
open Go Go.RowKit
set_option linter.unusedVariables false
set_option linter.unusedSimpArgs false
set_option maxRecDepth 100000
set_option linter.unusedSectionVars false
end Go.Proofs.Ytphojngdgmnpaaa

namespace Go.Proofs.Ytphojngdgmnpaaa
open Go Go.RowKit
set_option linter.unusedVariables false
set_option linter.unusedSimpArgs false
set_option maxRecDepth 100000
set_option linter.unusedSectionVars false
section
variable {E : Env} {nt : Nat} {ops : Array Oper} {T : Nat → Option AV} {H : Hp} {d : Option Nat} {ty : TypeId} {pos : String} {af : Array Edge} {gd : Option (Nat × Bool)}
theorem oc_ldp {x : Operand} {t e : TypeId} {g len off i o : Nat} {p : List Nat} {xs : List Cal} {z : AV} (hd : dOk nt d = true) (hx : evalO T x = some (.own g 27 len (.at off (i :: p)))) (hg : H g = some (.own e 27 (xs.map Cal.av))) (hln : len = xs.length) (hl : i < xs.length) (hz : subA p xs[i].av = some z) (ho : offA p xs[i].av = o) (hoff : off = i * 27 + o) (hs : tabT.sa t = some (isAggA z, sizeA z)) :
    OpOK Try.prog E nt ops ⟨d, .load t x, ty, pos, af, gd⟩ T H [g] ⟨z, []⟩ := by
  refine ok_load_own tabT hd hx hg (by simpa using hln) (by simp; omega) ?_ ?_ hs
  · simp only [subA, List.getElem?_map, List.getElem?_eq_getElem hl, Option.map_some]; exact hz
  · simp only [offA, List.getD_eq_getElem?_getD, List.getElem?_map, List.getElem?_eq_getElem hl, Option.map_some, Option.getD_some]
    rw [hoff]; congr 1
theorem oc_ldE {x : Operand} {t e : TypeId} {g len off i o : Nat} {p : List Nat} {xs : List Cal} {c : Cal} {z : AV} (hl : i < xs.length) (he : xs[i] = c) (hln : len = xs.length) (hd : dOk nt d = true) (hx : evalO T x = some (.own g 27 len (.at off (i :: p)))) (hg : H g = some (.own e 27 (xs.map Cal.av))) (hz : subA p c.av = some z) (ho : offA p c.av = o) (hoff : off = i * 27 + o) (hs : tabT.sa t = some (isAggA z, sizeA z)) :
    OpOK Try.prog E nt ops ⟨d, .load t x, ty, pos, af, gd⟩ T H [g] ⟨z, []⟩ := by
  subst he
  exact oc_ldp hd hx hg hln hl hz ho hoff hs
theorem oc_stE {x y : Operand} {t e : TypeId} {g len off i fd o : Nat} {xs : List Cal} {c : Cal} {v old : AV} (c' : Cal) (hl : i < xs.length) (he : xs[i] = c) (hln : len = xs.length) (hx : evalO T x = some (.own g 27 len (.at off [i, fd]))) (hy : evalO T y = some v) (hg : H g = some (.own e 27 (xs.map Cal.av))) (hz : subA [fd] c.av = some old) (ho : offA [fd] c.av = o) (hoff : off = i * 27 + o)
    (hv : setA v [fd] c.av = some c'.av) (hdv : dataA v = true) (hs : tabT.sa t = some (isAggA v, sizeA v)) (hs' : sizeA v = sizeA old) (hnt : notTup v = true) :
    OpOK Try.prog E nt ops ⟨none, .store t x y, ty, pos, af, gd⟩ T H [g] ⟨.tup [], [(g, .own e 27 ((xs.set i c').map Cal.av))]⟩ := by
  subst he
  exact oc_st c' hx hy hg hln hl hz ho hoff hv hdv hs hs' hnt
end
attribute [local irreducible] OpOK AWops AW CondB Go2 AFn thenA inBlockA noGotoA orderOk wantedA
end Go.Proofs.Ytphojngdgmnpaaa
