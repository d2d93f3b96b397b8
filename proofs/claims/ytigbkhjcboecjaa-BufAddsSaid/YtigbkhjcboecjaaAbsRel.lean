/-
  AbsRel: the relation of slots and boxes to the model's frame and world; a function's code over it; regions in whatever order. Of no one program.
-/
import Derived.Test.YtigbkhjcboecjaaAbs
namespace Go.Proofs.Ytigbkhjcboecjaa
open Go Go.RowKit
set_option linter.unusedVariables false
set_option linter.unusedSimpArgs false

structure Env where
  w0 : World
  X : Uns
  ent : Nat → Prop
def unst (E : Env) (B : Blk) (H : Hp) : Uns := fun b o => (b < E.w0.heap.size ∧ E.X b o) ∨ ∃ g, B g = some b ∧ match H g with | some (.var _) => True | some (.tail _ n k) => k * n ≤ o | _ => False
def RelBox (E : Env) (B : Blk) (H : Hp) (w : World) (g : Nat) : Bx → Prop
  | .var x => ∃ b cs t, B g = some b ∧ w.heap[b]? = some (.cells cs.toArray t (0, 0)) ∧ Rd (unst E B H) w x B H cs ∧ (E.w0.heap.size ≤ b ∨ E.ent b)
  | .froz x => ∃ b cs, B g = some b ∧ row? w b 0 cs.length = some cs.toArray ∧ Quiet (unst E B H) b 0 cs.length ∧ Rd (unst E B H) w x B H cs
  | .tail e n k => 0 < n ∧ ((B g = none ∧ k = 0) ∨ ∃ b cur cap, B g = some b ∧ w.heap[b]? = some (.cells cur e (0, 0)) ∧ cur.size = cap * n ∧ k ≤ cap ∧ cap ≤ maxLen ∧ E.w0.heap.size ≤ b)
def live : Option Bx → Bool
  | some (.var _) => true
  | some (.tail _ _ _) => true
  | _ => false
/-- what the call leaves of what was there -/
structure Left (E : Env) (w : World) : Prop where
  os : w.os = E.w0.os
  tape : w.tape = E.w0.tape
  output : w.output = E.w0.output
  size : E.w0.heap.size ≤ w.heap.size
  block : ∀ k, k < E.w0.heap.size → ¬ E.ent k → w.heap[k]? = E.w0.heap[k]?
structure Rel (E : Env) (nt : Nat) (B : Blk) (T : Nat → Option AV) (H : Hp) (a : Act) (w : World) : Prop where
  nt : a.tmps.size = nt
  df : a.defers = []
  tmp : ∀ s x, T s = some x → ∃ v, a.tmps[s]? = some v ∧ Rdv (unst E B H) w B H x v
  box : ∀ g bx, H g = some bx → RelBox E B H w g bx
  non : ∀ g, H g = none → B g = none
  inj : ∀ g g' b, live (H g) = true → live (H g') = true → B g = some b → B g' = some b → g = g'
  left : Left E w

def upd {α : Type} (f : Nat → Option α) (k : Nat) (v : α) : Nat → Option α := fun j => if j = k then some v else f j
theorem upd_same {α : Type} (f : Nat → Option α) (k : Nat) (v : α) : upd f k v k = some v := by simp [upd]
theorem upd_ne {α : Type} (f : Nat → Option α) {j k : Nat} (v : α) (h : j ≠ k) : upd f k v j = f j := by simp [upd, h]
theorem upd_comm {α : Type} (f : Nat → Option α) {j k : Nat} (v u : α) (h : j ≠ k) : upd (upd f k v) j u = upd (upd f j u) k v := by
  funext i
  simp only [upd]
  by_cases h1 : i = j
  · subst h1; simp [h]
  · simp [h1]
def look {α : Type} (k : Nat) : List (Nat × α) → Option α
  | [] => none
  | (j, v) :: l => bif Nat.beq j k then some v else look k l
theorem look_cons {α : Type} (j : Nat) (v : α) (l : List (Nat × α)) : (fun k => look k ((j, v) :: l)) = upd (fun k => look k l) j v := by
  funext k
  simp only [look, upd]
  by_cases h : k = j
  · subst h; simp
  · have : Nat.beq j k = false := by
      cases hb : Nat.beq j k
      · rfl
      · exact absurd (Nat.eq_of_beq_eq_true hb).symm h
    simp [this, h]

structure Eff where
  val : AV
  wr : List (Nat × Bx)
def updT (T : Nat → Option AV) (d : Option Nat) (x : AV) : Nat → Option AV := match d with | some d => upd T d x | none => T
def updH (H : Hp) : List (Nat × Bx) → Hp
  | [] => H
  | (g, b) :: l => upd (updH H l) g b
structure St where
  T : List (Nat × AV)
  H : List (Nat × Bx)
def St.t (S : St) : Nat → Option AV := fun k => look k S.T
def St.h (S : St) : Hp := fun k => look k S.H
def St.app (S : St) (d : Option Nat) (e : Eff) : St := ⟨match d with | some d => (d, e.val) :: S.T | none => S.T, e.wr ++ S.H⟩
theorem St.app_t (S : St) (d : Option Nat) (e : Eff) : (S.app d e).t = updT S.t d e.val := by
  cases d
  · rfl
  · exact look_cons _ _ _
theorem St.app_h (S : St) (d : Option Nat) (e : Eff) : (S.app d e).h = updH S.h e.wr := by
  have : ∀ l : List (Nat × Bx), (fun k => look k (l ++ S.H)) = updH S.h l := by
    intro l
    induction l with
    | nil => rfl
    | cons p l ih =>
      obtain ⟨g, b⟩ := p
      rw [List.cons_append, look_cons, ih]; rfl
  exact this e.wr

def dOk (nt : Nat) (d : Option Nat) : Bool := match d with | some d => Nat.blt d nt | none => true
def Step (P : Program) (E : Env) (nt : Nat) (o : Oper) (T : Nat → Option AV) (H : Hp) (e : Eff) : Prop :=
  ∀ B a w, Rel E nt B T H a w → ∀ (K : Act → World → Prop) (Q : Exit → Act → World → Prop),
    (∀ B' a' w', Rel E nt B' (updT T o.dst e.val) (updH H e.wr) a' w' → K a' w') → o.wp P a w K Q
/-- an operation: it reads so many boxes beside its slots; what it leaves -/
def OpOK (P : Program) (E : Env) (nt : Nat) (ops : Array Oper) (o : Oper) (T : Nat → Option AV) (H : Hp) (rh : List Nat) (e : Eff) : Prop :=
  ∀ T' H', (∀ s ∈ o.looksAt ops, T' s = T s) → (∀ g ∈ rh, H' g = H g) → (∀ p ∈ e.wr, H' p.1 = H p.1) → Step P E nt o T' H' e
def wantedA (ops : Array Oper) (o : Oper) (T : Nat → Option AV) : Option Bool :=
  match o.guard with
  | none => some true
  | some (j, b) => match ((ops[j]?).bind (·.dst)).bind T with
    | some (.v (.bool c)) => some (c == b)
    | some (.tup _) => some false
    | _ => none
structure Rec where
  rh : List Nat
  wr : List Nat
def St.same (S S' : St) : Prop := S'.t = S.t ∧ S'.h = S.h
/-- the operations of a region, in the text's order -/
def AWops (P : Program) (E : Env) (nt : Nat) (ops : Array Oper) : List Oper → St → List Rec → (St → List Rec → Prop) → Prop
  | [], S, rs, K => K S rs
  | o :: l, S0, rs, K => ∃ S, S0.same S ∧
    ((wantedA ops o S.t = some true ∧ ∃ rh e, OpOK P E nt ops o S.t S.h rh e ∧ AWops P E nt ops l (S.app o.dst e) (rs ++ [⟨rh, e.wr.map (·.1)⟩]) K) ∨
    (wantedA ops o S.t = some false ∧ dOk nt o.dst = true ∧ AWops P E nt ops l (S.app o.dst ⟨.tup [], []⟩) (rs ++ [⟨[], []⟩]) K))

theorem Rel.put {E : Env} {nt : Nat} {B : Blk} {T : Nat → Option AV} {H : Hp} {a : Act} {w : World} (r : Rel E nt B T H a w) {d : Option Nat} (hd : dOk nt d = true) {x : AV} {v : Value} (h : Rdv (unst E B H) w B H x v) :
    Rel E nt B (updT T d x) H (a.put d v) w := by
  cases d with
  | none => exact r
  | some d =>
    have hd' : d < a.tmps.size := by rw [r.nt]; simpa [dOk] using hd
    refine ⟨by simp [Act.put, r.nt], r.df, fun s y hs => ?_, r.box, r.non, r.inj, r.left⟩
    simp only [updT, upd] at hs
    by_cases hsd : s = d
    · subst hsd
      simp at hs
      subst hs
      exact ⟨v, by simp [Act.put, Array.getElem?_setIfInBounds, hd'], h⟩
    · rw [if_neg hsd] at hs
      obtain ⟨u, h1, h2⟩ := r.tmp s y hs
      exact ⟨u, by simp [Act.put, Array.getElem?_setIfInBounds, Ne.symm hsd, h1], h2⟩
theorem Rel.undef {E : Env} {nt : Nat} {B : Blk} {T : Nat → Option AV} {H : Hp} {a : Act} {w : World} (r : Rel E nt B T H a w) {d : Option Nat} (hd : dOk nt d = true) : Rel E nt B (updT T d (.tup [])) H (a.put d undef) w :=
  r.put hd (by rw [Rdv_tup]; exact ⟨[], rfl, by simp [Rdp]⟩)
theorem wanted_of {E : Env} {nt : Nat} {B : Blk} {T : Nat → Option AV} {H : Hp} {a : Act} {w : World} (r : Rel E nt B T H a w) {ops : Array Oper} {o : Oper} {b : Bool} (h : wantedA ops o T = some b) : Region.wanted o (yielded ops a.tmps) = b := by
  unfold wantedA at h
  unfold Region.wanted
  split at h
  · rename_i hg; injection h with h; subst h; simp [hg]
  · rename_i j c hg
    split at h
    · rename_i k hk
      injection h with h
      subst h
      simp only [hg]
      unfold yielded
      cases hd : (ops[j]?).bind (·.dst) with
      | none => rw [hd] at hk; simp at hk
      | some d =>
        rw [hd] at hk
        simp only [Option.bind_some] at hk ⊢
        obtain ⟨v, h1, h2⟩ := r.tmp d _ hk
        rw [Rdv_not (by intro xs; simp)] at h2
        obtain ⟨cs, h3, h4⟩ := h2
        simp only [Rd] at h3
        obtain ⟨_, rfl⟩ := h3
        subst h4
        simp [pack, h1]
    · rename_i xs hk
      injection h with h
      subst h
      simp only [hg]
      unfold yielded
      cases hd : (ops[j]?).bind (·.dst) with
      | none => rw [hd] at hk; simp at hk
      | some d =>
        rw [hd] at hk
        simp only [Option.bind_some] at hk ⊢
        obtain ⟨v, h1, h2⟩ := r.tmp d _ hk
        rw [Rdv_tup] at h2
        obtain ⟨vs, h3, _⟩ := h2
        subst h3
        simp [h1]
    · cases h

/-! ### a region in the text's order -/
theorem wpOps_seq {P : Program} {E : Env} {nt : Nat} {ops : Array Oper} {Q : Exit → Act → World → Prop} {K : St → List Rec → Prop}
    (hK : ∀ S rs, K S rs → ∀ B a w, Rel E nt B S.t S.h a w → Q .normal a w) :
    ∀ (l : List Oper) (i : Nat) (S : St) (rs : List Rec) (B : Blk) (a : Act) (w : World), ops.toList.drop i = l → AWops P E nt ops l S rs K → Rel E nt B S.t S.h a w → wpOps P ops Q (List.range' i l.length) a w
  | [], i, S, rs, B, a, w, _, h, r => hK S rs h B a w r
  | o :: l, i, S, rs, B, a, w, hl, h, r => by
    have hi : i < ops.size := by
      rcases Nat.lt_or_ge i ops.size with h | h
      · exact h
      · rw [List.drop_eq_nil_of_le (by simpa using h)] at hl; cases hl
    rw [List.drop_eq_getElem_cons (by simpa using hi)] at hl
    injection hl with h1 h2
    have ho : ops[i]? = some o := by rw [← h1]; simp
    rw [List.length_cons, List.range'_succ]
    simp only [wpOps, ho]
    obtain ⟨S1, ⟨es1, es2⟩, h⟩ := h
    rw [← es1, ← es2] at r
    have e1 := St.app_t S1 o.dst
    have e2 := St.app_h S1 o.dst
    rcases h with ⟨hw, rh, e, hok, hrest⟩ | ⟨hw, hd, hrest⟩
    · rw [if_pos (wanted_of r hw)]
      refine .inl (hok S1.t S1.h (fun _ _ => rfl) (fun _ _ => rfl) (fun _ _ => rfl) B a w r _ _ fun B' a' w' r' => ?_)
      rw [← e1, ← e2] at r'
      exact wpOps_seq hK l (i + 1) _ _ B' a' w' h2 hrest r'
    · rw [if_neg (by rw [wanted_of r hw]; simp)]
      have r' := r.undef hd
      have e1' := e1 ⟨.tup [], []⟩
      have e2' := e2 ⟨.tup [], []⟩
      simp only [updH] at e2'
      rw [← e1', ← e2'] at r'
      exact wpOps_seq hK l (i + 1) _ _ B _ w h2 hrest r'
end Go.Proofs.Ytigbkhjcboecjaa
