/-
  AbsFn: what a function computes of plain data, out of its code; a call of it. Of no one program.
-/
import Derived.Test.YtigbkhjcboecjaaAbsCode
namespace Go.Proofs.Ytigbkhjcboecjaa
open Go Go.RowKit
set_option linter.unusedVariables false
set_option linter.unusedSimpArgs false

mutual
/-- no address of the function's own -/
def dataA : AV → Bool
  | .v _ => true
  | .agg _ fs => dataL fs
  | .arr _ _ _ => true
  | .ref _ => true
  | .sl none _ _ => true
  | .sl (some _) _ _ => false
  | .ptr _ _ _ => false
  | .seg _ _ _ _ _ _ => false
  | .tup vs => dataL vs
  | .fn _ a b => dataL a && dataL b
  | .ifc _ x => dataA x
def dataL : List AV → Bool
  | [] => true
  | x :: l => dataA x && dataL l
end
section
variable {U : Uns} {w : World} {B B' : Blk} {H H' : Hp}
mutual
theorem Rd_data : ∀ (x : AV), dataA x = true → ∀ {cs : List Value}, Rd U w x B H cs → Rd U w x B' H' cs
  | .v x, _, _, h => by simpa [Rd] using h
  | .agg n fs, d, _, h => by
    simp only [Rd] at h ⊢
    exact ⟨h.1, Rds_data fs (by simpa [dataA] using d) h.2⟩
  | .arr m n xs, _, _, h => by simpa [Rd] using h
  | .ref x, _, _, h => by simpa [Rd] using h
  | .sl none n xs, _, _, h => by simpa [Rd] using h
  | .sl (some t) n xs, d, _, _ => by simp [dataA] at d
  | .ptr _ _ _, d, _, _ => by simp [dataA] at d
  | .seg _ _ _ _ _ _, d, _, _ => by simp [dataA] at d
  | .tup _, _, _, h => by simp [Rd] at h
  | .fn f a b, d, _, h => by
    simp only [Rd] at h ⊢
    simp only [dataA, Bool.and_eq_true] at d
    obtain ⟨c1, c2, h1, h2, h3⟩ := h
    exact ⟨c1, c2, h1, Rdp_data a d.1 h2, Rdp_data b d.2 h3⟩
  | .ifc t x, d, _, h => by
    simp only [Rd] at h ⊢
    obtain ⟨c, h1, h2⟩ := h
    exact ⟨c, Rd_data x (by simpa [dataA] using d) h1, h2⟩
theorem Rds_data : ∀ (xs : List AV), dataL xs = true → ∀ {cs : List Value}, Rds U w xs B H cs → Rds U w xs B' H' cs
  | [], _, _, h => by simpa [Rds] using h
  | x :: xs, d, _, h => by
    simp only [Rds] at h ⊢
    simp only [dataL, Bool.and_eq_true] at d
    obtain ⟨c1, c2, h1, h2, h3⟩ := h
    exact ⟨c1, c2, h1, Rd_data x d.1 h2, Rds_data xs d.2 h3⟩
theorem Rdp_data : ∀ (xs : List AV), dataL xs = true → ∀ {cs : List Value}, Rdp U w xs B H cs → Rdp U w xs B' H' cs
  | [], _, _, h => by simpa [Rdp] using h
  | x :: xs, d, _, h => by
    simp only [Rdp] at h ⊢
    simp only [dataL, Bool.and_eq_true] at d
    obtain ⟨c, vs, h1, h2, h3⟩ := h
    exact ⟨c, vs, h1, Rd_data x d.1 h2, Rdp_data xs d.2 h3⟩
end
/-- what plain data reads as, it reads as behind whatever boxes -/
theorem Rd_free : ∀ (x : AV) {cs : List Value}, Rd U w x B0 H0 cs → Rd U w x B H cs := fun x cs h =>
  Rd_go (Evo.refl U w) (fun _ _ _ h => h) x ⟨fun g b h _ => by simp [H0, isVar] at h, fun g h => by simp [H0, isVar] at h, fun t n len A cap h => by obtain ⟨e, k, h, _⟩ := h; simp [H0] at h⟩ h
theorem Rdv_free {x : AV} {v : Value} (h : Rdv U w B0 H0 x v) : Rdv U w B H x v :=
  Rdv_go (Evo.refl U w) (fun _ _ _ h => h) ⟨fun g b h _ => by simp [H0, isVar] at h, fun g h => by simp [H0, isVar] at h, fun t n len A cap h => by obtain ⟨e, k, h, _⟩ := h; simp [H0] at h⟩ h
theorem Rdv_sub {U' : Uns} (hU : ∀ b o, U' b o → U b o) {x : AV} {v : Value} (h : Rdv U w B H x v) : Rdv U' w B H x v :=
  Rdv_go (Evo.refl U w) (fun b o _ h => hU b o h) ⟨fun _ _ _ h => h, fun _ h => h, fun _ _ _ _ _ h => h⟩ h
end

section
variable {E : Env} {nt : Nat} {B : Blk} {T : Nat → Option AV} {H : Hp} {a : Act} {w w' : World}
theorem TokOk.ext {t n len cap : Nat} {A : Option Addr} (h : TokOk w B H t n len A cap) (e : Ext w w') : TokOk w' B H t n len A cap := by
  obtain ⟨ty, k, h1, h2, h3⟩ := h
  refine ⟨ty, k, h1, h2, fun hk => ⟨(h3 hk).1, fun b hb => ?_⟩⟩
  obtain ⟨h4, cur, h5, h6⟩ := (h3 hk).2 b hb
  exact ⟨h4, cur, e.heap h5, h6⟩
theorem Pic.ext (e : Ext w w') : Pic w w' B B H H := ⟨fun _ _ _ h => h, fun _ h => h, fun _ _ _ _ _ h => h.ext e⟩
theorem Left.ext (l : Left E w) (e : Ext w w') : Left E w' :=
  ⟨e.os.trans l.os, e.tape.trans l.tape, e.output.trans l.output, Nat.le_trans l.size e.size, fun k hk he => (e.block k (Nat.lt_of_lt_of_le hk l.size)).trans (l.block k hk he)⟩
theorem Rel.ext (r : Rel E nt B T H a w) (e : Ext w w') : Rel E nt B T H a w' := ⟨r.nt, r.df, fun s x h => by
    obtain ⟨v, h1, h2⟩ := r.tmp s x h
    exact ⟨v, h1, Rdv_go (Evo.ofExt e) (fun _ _ _ h => h) (Pic.ext e) h2⟩, fun g bx h => by
    have hb := r.box g bx h
    cases bx with
    | var x =>
      obtain ⟨b, cs, t, h1, h2, h3, h4⟩ := hb
      exact ⟨b, cs, t, h1, e.heap h2, Rd_go (Evo.ofExt e) (fun _ _ _ h => h) x (Pic.ext e) h3, h4⟩
    | froz x =>
      obtain ⟨b, cs, h1, h2, h3, h4⟩ := hb
      exact ⟨b, cs, h1, e.row h2, h3, Rd_go (Evo.ofExt e) (fun _ _ _ h => h) x (Pic.ext e) h4⟩
    | tail ty n k =>
      obtain ⟨h0, h1⟩ := hb
      refine ⟨h0, h1.imp id ?_⟩
      rintro ⟨b, cur, cap, k1, k2, k3⟩
      exact ⟨b, cur, cap, k1, e.heap k2, k3⟩, r.non, r.inj, r.left.ext e⟩
theorem unst0 (E : Env) : unst E B0 H0 = fun b o => b < E.w0.heap.size ∧ E.X b o := by
  funext b o
  simp [unst, B0]
end

/-! ### what a function computes -/
def AFn (P : Program) (f : FuncId) (args : List AV) (r : AV) : Prop :=
  ∀ (U : Uns) (w : World) (vs : List Value), Rdp U w args B0 H0 vs → Calls P f vs.toArray w fun e w' => ∃ v, e = .returned v ∧ Rdv (fun b o => b < w.heap.size ∧ U b o) w' B0 H0 r v ∧ Ext w w'
def bindsA : Nat → List AV → List (Nat × AV)
  | _, [] => []
  | i, x :: l => (i, x) :: bindsA (i + 1) l
/-- x may be read as y where no box is known: y bears no address of the function's own -/
def Wk (H : Hp) (x y : AV) : Prop := ∀ U w B c, Rd U w x B H c → Rd U w y B0 H0 c ∧ pack x c = pack y c
theorem Wk.data {H : Hp} {x : AV} (h : dataA x = true) : Wk H x x := fun U w B c hr => ⟨Rd_data x h hr, rfl⟩
theorem Wk.tok {H : Hp} {t : Option Nat} {n : Nat} {xs : List AV} : Wk H (.sl t n xs) (.sl none n xs) := fun U w B c hr => by
  simp only [Rd] at hr ⊢
  obtain ⟨A, cap, h1, h2, h3, h4, _⟩ := hr
  refine ⟨⟨A, cap, h1, h2, h3, h4, fun t ht => by cases ht⟩, ?_⟩
  subst h1; rfl
theorem Wk.nil {H : Hp} {n : Nat} : Wk H (.v (.slice none 0 0)) (.sl none n []) := fun U w B c hr => by
  simp only [Rd] at hr ⊢
  obtain ⟨_, rfl⟩ := hr
  exact ⟨⟨none, 0, rfl, Nat.le_refl _, Nat.zero_le _, fun h => absurd h (by simp), fun t ht => by cases ht⟩, rfl⟩
inductive WkL (H : Hp) : List AV → List AV → Prop
  | nil : WkL H [] []
  | cons {x y : AV} {xs ys : List AV} (h : Wk H x y) (t : WkL H xs ys) : WkL H (x :: xs) (y :: ys)
theorem Wk.agg {H : Hp} {n : Nat} {xs ys : List AV} (h : WkL H xs ys) : Wk H (.agg n xs) (.agg n ys) := fun U w B c hr => by
  simp only [Rd] at hr ⊢
  obtain ⟨h1, h2⟩ := hr
  refine ⟨⟨h1, ?_⟩, rfl⟩
  clear h1
  induction h generalizing c with
  | nil => simpa [Rds] using h2
  | cons hx _ ih =>
    simp only [Rds] at h2 ⊢
    obtain ⟨c1, c2, e, k1, k2⟩ := h2
    exact ⟨c1, c2, e, (hx _ _ _ _ k1).1, ih _ k2⟩
theorem WkL.rdp {H : Hp} {U : Uns} {w : World} {B : Blk} {xs ys : List AV} (h : WkL H xs ys) {vs : List Value} (hr : Rdp U w xs B H vs) : Rdp U w ys B0 H0 vs := by
  induction h generalizing vs with
  | nil => simpa [Rdp] using hr
  | cons hx _ ih =>
    simp only [Rdp] at hr ⊢
    obtain ⟨c, vs', e, k1, k2⟩ := hr
    obtain ⟨k3, k4⟩ := hx _ _ _ _ k1
    exact ⟨c, vs', by rw [e, k4], k3, ih k2⟩

def isAggA : AV → Bool
  | .agg _ _ => true
  | .arr _ _ _ => true
  | _ => false
def sizeA : AV → Nat
  | .agg n _ => n
  | .arr m _ _ => m
  | _ => 1
theorem Rd_len {U : Uns} {w : World} {B : Blk} {H : Hp} {x : AV} {c : List Value} (h : Rd U w x B H c) : c.length = sizeA x := by
  cases x <;> simp only [Rd] at h <;> simp only [sizeA]
  case v => rw [h.2]; rfl
  case agg => exact h.1
  case arr => exact h.1
  case ptr => obtain ⟨_, b, _, rfl⟩ := h; rfl
  case ref => obtain ⟨b, off, c, rfl, _⟩ := h; rfl
  case sl => obtain ⟨A, cap, rfl, _⟩ := h; rfl
  case seg => obtain ⟨_, b, _, _, _, rfl⟩ := h; rfl
  case fn => obtain ⟨c1, c2, rfl, _⟩ := h; rfl
  case ifc => obtain ⟨c, _, rfl⟩ := h; rfl
theorem Rd_pack {U : Uns} {w : World} {B : Blk} {H : Hp} {x : AV} {c : List Value} (h : Rd U w x B H c) : (isAggA x = true → pack x c = .agg c.toArray) ∧ (isAggA x = false → c = [pack x c]) := by
  cases x <;> simp only [Rd] at h <;> simp only [isAggA]
  case v => obtain ⟨_, rfl⟩ := h; simp [pack]
  case agg => simp [pack]
  case arr => simp [pack]
  case ptr => obtain ⟨_, b, _, rfl⟩ := h; simp [pack]
  case ref => obtain ⟨b, off, c, rfl, _⟩ := h; simp [pack]
  case sl => obtain ⟨A, cap, rfl, _⟩ := h; simp [pack]
  case seg => obtain ⟨_, b, _, _, _, rfl⟩ := h; simp [pack]
  case fn => obtain ⟨c1, c2, rfl, _⟩ := h; simp [pack]
  case ifc => obtain ⟨c, _, rfl⟩ := h; simp [pack]
/-- type t's values are of so many cells, a struct's or an array's or of one cell -/
def aggD : TypeDesc → Bool
  | .struct _ => true
  | .array _ _ => true
  | _ => false
def TyOf (P : Program) (t : TypeId) (agg : Bool) (n : Nat) : Prop :=
  ∃ d, P.underlying t = some d ∧ aggD d = agg ∧ (P.info? t).map (·.size) = some n
theorem run_loadVar_of {P : Program} {t : TypeId} {agg : Bool} {n : Nat} (ht : TyOf P t agg n) {b off : Nat} {w : World} {cs : List Value} (h : row? w b off n = some cs.toArray) (h1 : agg = false → n = 1) :
    (loadVar t ⟨b, off, none⟩).run P w = .ok (if agg then .agg cs.toArray else cs.headD undef) w := by
  obtain ⟨d, hu, hd, hi⟩ := ht
  cases agg
  · obtain rfl := h1 rfl
    have hagg : (isAgg t).run P w = .ok false w := by
      unfold isAgg
      rw [Sem.run_bind, run_underlying hu w]
      cases d <;> simp_all [aggD]
    obtain ⟨hs, hc⟩ := row_cells h
    have h0 := hc 0 (by omega)
    obtain ⟨v, rfl⟩ : ∃ v, cs = [v] := by
      match cs, hs with
      | [v], _ => exact ⟨v, rfl⟩
    have hcell : w.cell? ⟨b, off, none⟩ = some v := by simpa using h0
    simp [loadVar, Sem.run_bind, hagg, load, Sem.run, hcell]
  · simp only [if_true]
    exact run_loadVar_at hu (by cases d <;> simp_all [aggD]) hi h

/-- what a result reads as when the function is left -/
def Res1 (P : Program) (S : St) : ResultVar → AV → Prop
  | .tmp t, y => ∃ x, S.t t = some x ∧ (∀ xs, x ≠ .tup xs) ∧ Wk S.h x y
  | .cell a t, y => ∃ g x, S.t a = some (.ptr g 0 []) ∧ S.h g = some (.var x) ∧ TyOf P t (isAggA x) (sizeA x) ∧ Wk S.h x y
def ResL (P : Program) (S : St) : List ResultVar → List AV → Prop
  | [], [] => True
  | r :: rs, y :: ys => Res1 P S r y ∧ ResL P S rs ys
  | [], _ :: _ => False
  | _ :: _, [] => False
def resA : List AV → AV
  | [x] => x
  | xs => .tup xs
section
variable {P : Program} {E : Env} {nt : Nat} {B : Blk} {S : St} {a : Act} {w : World}
theorem res1_run (r : Rel E nt B S.t S.h a w) {v : ResultVar} {y : AV} (h : Res1 P S v y) : ∃ c, (resOf a.tmps v).run P w = .ok (pack y c) w ∧ Rd (unst E B S.h) w y B0 H0 c := by
  cases v with
  | tmp t =>
    obtain ⟨x, h1, h2, h3⟩ := h
    obtain ⟨u, h4, h5⟩ := r.tmp t x h1
    rw [Rdv_not h2] at h5
    obtain ⟨c, h6, rfl⟩ := h5
    obtain ⟨h7, h8⟩ := h3 _ _ _ _ h6
    refine ⟨c, ?_, h7⟩
    rw [← h8]
    have : a.tmps.getD t undef = pack x c := by simp [Array.getD_eq_getD_getElem?, h4]
    simp only [resOf, this]; rfl
  | cell ad t =>
    obtain ⟨g, x, h1, h2, h3, h4⟩ := h
    obtain ⟨u, h5, h6⟩ := r.tmp ad _ h1
    rw [Rdv_not (by simp)] at h6
    obtain ⟨c, h7, rfl⟩ := h6
    simp only [Rd] at h7
    obtain ⟨_, b, h8, rfl⟩ := h7
    obtain ⟨b', cs, ty, k1, k2, k3, _⟩ := r.box g _ h2
    rw [h8] at k1
    injection k1 with k1
    subst k1
    have hl := Rd_len k3
    have hrow : row? w b 0 (sizeA x) = some cs.toArray := by rw [row_block k2]; exact rowOf_full _ _ (by simpa using hl)
    obtain ⟨k4, k5⟩ := h4 _ _ _ _ k3
    refine ⟨cs, ?_, k4⟩
    have hv := run_loadVar_of h3 hrow (by intro h; cases x <;> simp_all [isAggA, sizeA])
    have : a.tmps.getD ad undef = .pointer (some ⟨b, 0, none⟩) := by simp [Array.getD_eq_getD_getElem?, h5, pack]
    simp only [resOf, this, asAddr, Sem.run_bind, Sem.run_pure, Result.andThen_ok, hv]
    rw [← k5]
    cases hx : isAggA x
    · have he := (Rd_pack k3).2 hx
      obtain ⟨v, rfl⟩ : ∃ v, cs = [v] := ⟨_, he⟩
      simp at he
      simp [← he]
    · simp [(Rd_pack k3).1 hx]
theorem resL_run (r : Rel E nt B S.t S.h a w) : ∀ (vs : List ResultVar) (ys : List AV), ResL P S vs ys → ∃ us : List Value, (vs.mapM (resOf a.tmps)).run P w = .ok us w ∧ us.length = vs.length ∧ Rdp (unst E B S.h) w ys B0 H0 us
  | [], [], _ => ⟨[], rfl, rfl, by simp [Rdp]⟩
  | v :: vs, y :: ys, h => by
    obtain ⟨h1, h2⟩ := h
    obtain ⟨c, k1, k2⟩ := res1_run r h1
    obtain ⟨us, k3, k4, k5⟩ := resL_run r vs ys h2
    refine ⟨pack y c :: us, ?_, by simp [k4], by simp only [Rdp]; exact ⟨c, us, rfl, k2, k5⟩⟩
    simp [List.mapM_cons, k1, k3]
  | [], _ :: _, h => h.elim
  | _ :: _, [], h => h.elim
end
theorem mapM_arr {α β : Type} (f : α → Sem β) (l : List α) (P : Program) (w : World) (us : List β) (h : (l.mapM f).run P w = .ok us w) : (l.toArray.mapM f).run P w = .ok us.toArray w := by
  rw [List.mapM_toArray, map_eq_pure_bind, Sem.run_bind, h]
  rfl

theorem bindsA_look : ∀ (args : List AV) (i k : Nat), look k (bindsA i args) = if i ≤ k then args[k - i]? else none
  | [], i, k => by simp [bindsA, look]
  | x :: l, i, k => by
    simp only [bindsA, look]
    cases hb : Nat.beq i k
    · have hne : i ≠ k := fun e => by subst e; simp at hb
      simp only [cond_false]
      rw [bindsA_look l (i + 1) k]
      by_cases h : i ≤ k
      · rw [if_pos (by omega), if_pos h]
        have : k - i = (k - (i + 1)) + 1 := by omega
        rw [this, List.getElem?_cons_succ]
      · rw [if_neg (by omega), if_neg h]
    · obtain rfl := Nat.eq_of_beq_eq_true hb
      simp
theorem Rdp_get {U : Uns} {w : World} {B : Blk} {H : Hp} : ∀ {xs : List AV} {vs : List Value}, Rdp U w xs B H vs → xs.length = vs.length ∧ ∀ (i : Nat) (x : AV), xs[i]? = some x → ∃ v, vs[i]? = some v ∧ ∃ c, Rd U w x B H c ∧ v = pack x c
  | [], vs, h => by simp only [Rdp] at h; subst h; simp
  | x :: xs, vs, h => by
    simp only [Rdp] at h
    obtain ⟨c, vs', rfl, h1, h2⟩ := h
    obtain ⟨k1, k2⟩ := Rdp_get h2
    refine ⟨by simp [k1], fun i y hi => ?_⟩
    cases i with
    | zero => simp at hi; subst hi; exact ⟨_, rfl, c, h1, rfl⟩
    | succ i => simpa using k2 i y (by simpa using hi)
theorem Rd_notup {U : Uns} {w : World} {B : Blk} {H : Hp} {x : AV} {c : List Value} (h : Rd U w x B H c) : ∀ xs, x ≠ .tup xs := by
  rintro xs rfl
  simp [Rd] at h
/-- what a function computes, out of its code -/
theorem AFn_intro {P : Program} {f : FuncId} {fn : Func} {c : Code} {args : List AV} {r : AV} {nt : Nat} {rv : List ResultVar} (hf : P.funcs[f]? = some fn) (hb : fn.body = some c) (hnt : fn.ntmps = nt) (hrv : fn.results = rv.toArray) (hn : args.length ≤ nt) (ys : List AV) (hy : resA ys = r)
    (h : ∀ E, (∀ b, ¬ E.ent b) → AW P E nt c ⟨bindsA 0 args, []⟩ (fun e S' => (e = .normal ∨ e = .ret) ∧ ResL P S' rv ys)) : AFn P f args r := by
  have hrv' : fn.results.toList = rv := by rw [hrv]
  subst hnt
  subst hrv'
  clear hrv
  intro U w vs hvs
  subst hy
  obtain ⟨hl, hg⟩ := Rdp_get hvs
  let E : Env := ⟨w, U, fun _ => False⟩
  have eU : unst E B0 H0 = fun b o => b < w.heap.size ∧ U b o := unst0 E
  have r0 : Rel E fn.ntmps B0 (St.t ⟨bindsA 0 args, []⟩) (St.h ⟨bindsA 0 args, []⟩) { tmps := vs.toArray ++ Array.replicate (fn.ntmps - vs.toArray.size) undef, defers := [] } w := by
    have eH : (St.h ⟨bindsA 0 args, []⟩) = H0 := by funext k; rfl
    rw [eH]
    refine ⟨by simp; omega, rfl, fun s x hs => ?_, fun g bx h => by simp [H0] at h, fun g _ => rfl, fun g g' b h => by simp [H0, live] at h, ⟨rfl, rfl, rfl, Nat.le_refl _, fun k _ _ => rfl⟩⟩
    have hs' : look s (bindsA 0 args) = some x := hs
    rw [bindsA_look] at hs'
    simp only [Nat.zero_le, if_true, Nat.sub_zero] at hs'
    obtain ⟨v, h1, c', h2, h3⟩ := hg s x hs'
    have hsl : s < vs.length := (List.getElem?_eq_some_iff.1 h1).1
    refine ⟨v, ?_, ?_⟩
    · rw [Array.getElem?_append_left (by simpa using hsl)]
      simpa using h1
    · rw [eU]
      exact Rdv_sub (fun b o h => h.2) (by rw [Rdv_not (Rd_notup h2)]; exact ⟨c', h2, h3⟩)
  refine calls_of_wp hf hb (wp_mono (h E (fun _ h => h) B0 _ w r0) ?_)
  rintro e a' w' ⟨B', S', r', he, hres⟩
  obtain ⟨us, k1, k2, k3⟩ := resL_run r' _ _ hres
  have hx : Ext w w' := ⟨r'.left.os, r'.left.tape, r'.left.output, r'.left.size, fun k hk => r'.left.block k hk (fun h => h.elim)⟩
  have hfin : ∃ v, (results fn a'.tmps).run P w' = .ok v w' ∧ ∃ v', Ending.returned v = .returned v' ∧ Rdv (fun b o => b < w.heap.size ∧ U b o) w' B0 H0 (resA ys) v' ∧ Ext w w' := by
    have hm := mapM_arr _ _ _ _ _ k1
    rw [Array.toArray_toList] at hm
    rw [results_eq, Sem.run_bind, hm]
    obtain ⟨m1, m2⟩ := Rdp_get k3
    by_cases h1 : us.length = 1
    · obtain ⟨u, rfl⟩ := List.length_eq_one_iff.1 h1
      obtain ⟨y, rfl⟩ := List.length_eq_one_iff.1 (m1.trans h1)
      refine ⟨u, by simp, u, rfl, ?_, hx⟩
      obtain ⟨v, h3, c', h4, h5⟩ := m2 0 y rfl
      simp at h3
      subst h3
      show Rdv (fun b o => b < w.heap.size ∧ U b o) w' B0 H0 y u
      exact Rdv_sub (U := unst E B' S'.h) (fun b o h => .inl h) (by rw [Rdv_not (Rd_notup h4)]; exact ⟨c', h4, h5⟩)
    · refine ⟨.tuple us.toArray, by simp [h1], _, rfl, ?_, hx⟩
      have hr : resA ys = .tup ys := by
        match ys, m1 with
        | [], _ => rfl
        | [y], m1 => exact absurd m1.symm h1
        | y :: z :: l, _ => rfl
      rw [hr, Rdv_tup]
      have := Rdv_sub (U := unst E B' S'.h) (U' := fun b o => b < w.heap.size ∧ U b o) (w := w') (B := B0) (H := H0) (x := .tup ys) (v := .tuple us.toArray) (fun b o h => .inl h) (by rw [Rdv_tup]; exact ⟨us, rfl, k3⟩)
      rw [Rdv_tup] at this
      exact this
  obtain ⟨v, h1, h2⟩ := hfin
  rcases he with rfl | rfl
  · exact ⟨r'.df, v, h1, h2⟩
  · exact ⟨r'.df, v, h1, h2⟩
end Go.Proofs.Ytigbkhjcboecjaa
