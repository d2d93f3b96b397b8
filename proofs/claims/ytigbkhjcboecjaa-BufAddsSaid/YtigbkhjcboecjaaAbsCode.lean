/-
  AbsCode: a function's code over plain readings: its rules; what a function computes. Of no one program.
-/
import Derived.Test.YtigbkhjcboecjaaAbsDraw
import Derived.Scope
namespace Go.Proofs.Ytigbkhjcboecjaa
open Go Go.RowKit
set_option linter.unusedVariables false
set_option linter.unusedSimpArgs false

def evalO (T : Nat → Option AV) : Operand → Option AV
  | .tmp t => T t
  | .const v => if plain v then some (.v v) else none
  | .func f => some (.fn (.func f) [] [])
  | .global _ => none
section
variable {E : Env} {nt : Nat} {B : Blk} {T : Nat → Option AV} {H : Hp} {a : Act} {w : World}
theorem Rel.eval (r : Rel E nt B T H a w) {x : Operand} {v : AV} (h : evalO T x = some v) : Rdv (unst E B H) w B H v (a.eval x) := by
  cases x with
  | tmp t =>
    obtain ⟨u, h1, h2⟩ := r.tmp t v h
    have : a.eval (.tmp t) = u := by simp [Act.eval, h1]
    rw [this]; exact h2
  | const c =>
    simp only [evalO] at h
    split at h
    · rename_i hp
      injection h with h
      subst h
      rw [Rdv_not (by simp)]
      exact ⟨[c], by simp [Rd, hp], rfl⟩
    · cases h
  | func f =>
    simp only [evalO] at h
    injection h with h
    subst h
    rw [Rdv_not (by simp)]
    exact ⟨_, by simp only [Rd]; exact ⟨[], [], rfl, by simp [Rdp], by simp [Rdp]⟩, rfl⟩
  | global g => simp [evalO] at h
theorem Rdv_v {U : Uns} {x : Value} {v : Value} : Rdv U w B H (.v x) v ↔ plain x = true ∧ v = x := by
  rw [Rdv_not (by simp)]
  constructor
  · rintro ⟨c, h1, h2⟩
    simp only [Rd] at h1
    obtain ⟨h1, rfl⟩ := h1
    exact ⟨h1, h2⟩
  · rintro ⟨h1, rfl⟩
    exact ⟨[v], by simp [Rd, h1], rfl⟩
theorem Rel.evalv (r : Rel E nt B T H a w) {x : Operand} {v : Value} (h : evalO T x = some (.v v)) : a.eval x = v := (Rdv_v.1 (r.eval h)).2
theorem Rel.evalp (r : Rel E nt B T H a w) {x : Operand} {v : Value} (h : evalO T x = some (.v v)) : plain v = true := (Rdv_v.1 (r.eval h)).1
theorem Rel.drew (r : Rel E nt B T H a w) : Rel E nt B T H a w.drew := ⟨r.nt, r.df, fun s x h => by
    obtain ⟨v, h1, h2⟩ := r.tmp s x h
    exact ⟨v, h1, Rdv_go (Evo.ofExt (Ext.refl w).drew) (fun _ _ _ h => h) ⟨fun _ _ _ h => h, fun _ h => h, fun _ _ _ _ _ h => h⟩ h2⟩, fun g bx h => by
    have hb := r.box g bx h
    have p : Pic w w.drew B B H H := ⟨fun _ _ _ h => h, fun _ h => h, fun _ _ _ _ _ h => h⟩
    cases bx with
    | var x =>
      obtain ⟨b, cs, t, h1, h2, h3, h4⟩ := hb
      exact ⟨b, cs, t, h1, h2, Rd_go (Evo.ofExt (Ext.refl w).drew) (fun _ _ _ h => h) x p h3, h4⟩
    | froz x =>
      obtain ⟨b, cs, h1, h2, h3, h4⟩ := hb
      exact ⟨b, cs, h1, h2, h3, Rd_go (Evo.ofExt (Ext.refl w).drew) (fun _ _ _ h => h) x p h4⟩
    | tail e n k => exact hb, r.non, r.inj, ⟨r.left.os, r.left.tape, r.left.output, r.left.size, r.left.block⟩⟩
end

def AW (P : Program) (E : Env) (nt : Nat) (c : Code) (S : St) (Q : Exit → St → Prop) : Prop :=
  ∀ B a w, Rel E nt B S.t S.h a w → c.wp P (fun e a' w' => ∃ B' S', Rel E nt B' S'.t S'.h a' w' ∧ Q e S') a w
def thenA (K : St → Prop) (Q : Exit → St → Prop) : Exit → St → Prop
  | .normal, S => K S
  | .outgrown, _ => False
  | e, S => Q e S
def inBlockA (id : Nat) (Q : Exit → St → Prop) : Exit → St → Prop
  | .exit id', S => if id' = id then Q .normal S else Q (.exit id') S
  | e, S => Q e S
def noGotoA (Q : Exit → St → Prop) : Exit → St → Prop
  | .goto _, _ => False
  | e, S => Q e S
section
variable {P : Program} {E : Env} {nt : Nat} {S : St} {Q : Exit → St → Prop}
theorem AW.mono {c : Code} {Q' : Exit → St → Prop} (h : AW P E nt c S Q) (hq : ∀ e S, Q e S → Q' e S) : AW P E nt c S Q' := fun B a w r =>
  wp_mono (h B a w r) fun e a w ⟨B', S', h1, h2⟩ => ⟨B', S', h1, hq _ _ h2⟩
theorem AW_skip (h : Q .normal S) : AW P E nt .skip S Q := fun B a w r => wp_skip ⟨B, S, r, h⟩
theorem AW_ret (h : Q .ret S) : AW P E nt .ret S Q := fun B a w r => wp_ret ⟨B, S, r, h⟩
theorem AW_exit {id : Nat} (h : Q (.exit id) S) : AW P E nt (.exit id) S Q := fun B a w r => wp_exit ⟨B, S, r, h⟩
theorem AW_seq {x y : Code} (h : AW P E nt x S (thenA (fun S' => AW P E nt y S' Q) Q)) : AW P E nt (.seq x y) S Q := fun B a w r =>
  wp_seq (wp_mono (h B a w r) fun e a w ⟨B', S', h1, h2⟩ => by
    cases e with
    | normal => exact h2 B' a w h1
    | outgrown => exact h2.elim
    | exit id => exact ⟨B', S', h1, h2⟩
    | goto l => exact ⟨B', S', h1, h2⟩
    | ret => exact ⟨B', S', h1, h2⟩
    | panic c => exact ⟨B', S', h1, h2⟩)
theorem AW_block {id : Nat} {c : Code} (h : AW P E nt c S (inBlockA id Q)) : AW P E nt (.block id c) S Q := fun B a w r =>
  wp_block (wp_mono (h B a w r) fun e a w ⟨B', S', h1, h2⟩ => by
    cases e with
    | exit id' =>
      simp only [inBlockA] at h2
      simp only [Exit.inBlock]
      split
      · rename_i he; rw [if_pos he] at h2; exact ⟨B', S', h1, h2⟩
      · rename_i he; rw [if_neg he] at h2; exact ⟨B', S', h1, h2⟩
    | normal => exact ⟨B', S', h1, h2⟩
    | outgrown => exact ⟨B', S', h1, h2⟩
    | goto l => exact ⟨B', S', h1, h2⟩
    | ret => exact ⟨B', S', h1, h2⟩
    | panic c => exact ⟨B', S', h1, h2⟩)
theorem AW_scope {c : Code} (h : AW P E nt c S (noGotoA Q)) : AW P E nt (.scope c) S Q := fun B a w r =>
  wp_scope_straight (wp_mono (h B a w r) fun e a w ⟨B', S', h1, h2⟩ => by
    cases e with
    | goto l => exact h2.elim
    | normal => exact ⟨B', S', h1, h2⟩
    | outgrown => exact ⟨B', S', h1, h2⟩
    | exit l => exact ⟨B', S', h1, h2⟩
    | ret => exact ⟨B', S', h1, h2⟩
    | panic c => exact ⟨B', S', h1, h2⟩)
theorem AW_cond {c : Operand} {x y : Code} (b : Bool) (hc : evalO S.t c = some (.v (.bool b))) (h1 : b = true → AW P E nt x S Q) (h2 : b = false → AW P E nt y S Q) : AW P E nt (.cond c x y) S Q := fun B a w r =>
  wp_cond_split (r.evalv hc) (fun hb => h1 hb B a w r) (fun hb => h2 hb B a w r)
theorem AW_region {id : Nat} {ops : Array Oper} (h : AWops P E nt ops ops.toList S [] (fun S' _ => Q .normal S')) : AW P E nt (.region id ops false) S Q := fun B a w r => by
  refine wp_region ?_
  have := wpOps_seq (P := P) (Q := fun e a' w' => ∃ B' S', Rel E nt B' S'.t S'.h a' w' ∧ Q e S') (fun S rs hK B a w r => ⟨B, S, r, hK⟩) ops.toList 0 S [] B a w rfl h r
  rw [List.range_eq_range']
  simpa using this
theorem AW_draw {id : Nat} {ops : Array Oper} (hm : P.follows .mixedOrders = true) (h : AWops P E nt ops ops.toList S [] (fun S' rs => orderOk ops rs = true ∧ Q .normal S')) : AW P E nt (.region id ops true) S Q := fun B a w r =>
  wp_region_any hm (wpAny_ops (Q := fun e a' w' => ∃ B' S', Rel E nt B' S'.t S'.h a' w' ∧ Q e S') (fun S rs hK => ⟨hK.1, fun B a w r => ⟨B, S, r, hK.2⟩⟩) h r.drew)
theorem AW_loop {c : Code} {ι : Type} (I : ι → St) (J : ι → Prop) (μ : ι → Nat) (h0 : ∃ i, J i ∧ ∀ B a w, Rel E nt B S.t S.h a w → Rel E nt B (I i).t (I i).h a w)
    (round : ∀ i, J i → AW P E nt c (I i) (thenA (fun S' => ∃ j, J j ∧ μ j < μ i ∧ ∀ B a w, Rel E nt B S'.t S'.h a w → Rel E nt B (I j).t (I j).h a w) Q)) : AW P E nt (.loop c) S Q := by
  intro B a w r
  obtain ⟨i0, j0, s0⟩ := h0
  -- the measure counts on the index, which no frame bears: by induction on it
  have key : ∀ n i, μ i = n → J i → ∀ B a w, Rel E nt B (I i).t (I i).h a w → ∀ (b : Frame) (k : List Item) (cs : List Frame),
      ∃ e a' w', (∃ B' S', Rel E nt B' S'.t S'.h a' w' ∧ Q e S') ∧ Arrives P (lone (b.at a (.code c :: .inLoop c :: k)) cs w) b k cs e a' w' := by
    intro n
    induction n using Nat.strongRecOn with
    | _ n ih =>
      intro i hn hJ B a w r b k cs
      obtain ⟨e, a₁, w₁, ⟨B₁, S₁, r₁, hq⟩, harr⟩ := round i hJ B a w r b (.inLoop c :: k) cs
      cases e with
      | normal =>
        obtain ⟨j, hJj, hlt, hsub⟩ := hq
        obtain ⟨e₂, a₂, w₂, hq₂, harr₂⟩ := ih (μ j) (hn ▸ hlt) j rfl hJj B₁ a₁ w₁ (hsub _ _ _ r₁) b k cs
        exact ⟨e₂, a₂, w₂, hq₂, .of_steps (Steps.trans harr (.one step_inLoop)) harr₂⟩
      | exit id => exact ⟨_, a₁, w₁, ⟨B₁, S₁, r₁, hq⟩, .pass (x := .inLoop c) rfl (fun _ _ => .inl (by simp)) harr⟩
      | goto l => exact ⟨_, a₁, w₁, ⟨B₁, S₁, r₁, hq⟩, .pass (x := .inLoop c) rfl (fun _ _ => .inl (by simp)) harr⟩
      | ret => exact ⟨_, a₁, w₁, ⟨B₁, S₁, r₁, hq⟩, .pass (x := .inLoop c) rfl (fun _ _ => .inl (by simp)) harr⟩
      | panic ch => exact ⟨_, a₁, w₁, ⟨B₁, S₁, r₁, hq⟩, .pass (x := .inLoop c) rfl (fun _ _ => .inl (by simp)) harr⟩
      | outgrown => exact hq.elim
  intro b k cs
  obtain ⟨e, a', w', hq, harr⟩ := key _ i0 rfl j0 B a w (s0 _ _ _ r) b k cs
  exact ⟨e, a', w', hq, .of_steps (.one step_loop) harr⟩
end

end Go.Proofs.Ytigbkhjcboecjaa
