/-
  AbsW: a region's operations, step by step; loops; states that say less. Of no one program.
-/
import Derived.Test.YtigbkhjcboecjaaAbsMem3
namespace Go.Proofs.Ytigbkhjcboecjaa
open Go Go.RowKit
set_option linter.unusedVariables false
set_option linter.unusedSimpArgs false

section
variable {P : Program} {E : Env} {nt : Nat} {ops : Array Oper} {l : List Oper} {T : List (Nat × AV)} {H : List (Nat × Bx)} {rs : List Rec} {K : St → List Rec → Prop} {op : Op} {ty : TypeId} {pos : String} {af : Array Edge} {gd : Option (Nat × Bool)} {d : Nat} {rh : List Nat}
theorem want_n {T : Nat → Option AV} {d : Option Nat} : wantedA ops ⟨d, op, ty, pos, af, none⟩ T = some true := rfl
theorem want_g {T : Nat → Option AV} {d : Option Nat} {j : Nat} {b c : Bool} (h : ((ops[j]?).bind (·.dst)).bind T = some (.v (.bool c))) (hc : c = b) : wantedA ops ⟨d, op, ty, pos, af, some (j, b)⟩ T = some true := by
  subst hc; unfold wantedA; simp [h]
theorem want_f {T : Nat → Option AV} {d : Option Nat} {j : Nat} {b c : Bool} (h : ((ops[j]?).bind (·.dst)).bind T = some (.v (.bool c))) (hc : c = !b) : wantedA ops ⟨d, op, ty, pos, af, some (j, b)⟩ T = some false := by
  subst hc; unfold wantedA; simp [h]
theorem Wend (S : St) (h : K S rs) : AWops P E nt ops [] S rs K := h
theorem Wv {v : AV} (hok : OpOK P E nt ops ⟨some d, op, ty, pos, af, gd⟩ (St.t ⟨T, H⟩) (St.h ⟨T, H⟩) rh ⟨v, []⟩) (hw : wantedA ops ⟨some d, op, ty, pos, af, gd⟩ (St.t ⟨T, H⟩) = some true)
    (h : AWops P E nt ops l ⟨(d, v) :: T, H⟩ (rs ++ [⟨rh, []⟩]) K) : AWops P E nt ops (⟨some d, op, ty, pos, af, gd⟩ :: l) ⟨T, H⟩ rs K := ⟨⟨T, H⟩, ⟨rfl, rfl⟩, .inl ⟨hw, rh, _, hok, h⟩⟩
theorem Wb {v : AV} {g : Nat} {b : Bx} (hok : OpOK P E nt ops ⟨some d, op, ty, pos, af, gd⟩ (St.t ⟨T, H⟩) (St.h ⟨T, H⟩) rh ⟨v, [(g, b)]⟩) (hw : wantedA ops ⟨some d, op, ty, pos, af, gd⟩ (St.t ⟨T, H⟩) = some true)
    (h : AWops P E nt ops l ⟨(d, v) :: T, (g, b) :: H⟩ (rs ++ [⟨rh, [g]⟩]) K) : AWops P E nt ops (⟨some d, op, ty, pos, af, gd⟩ :: l) ⟨T, H⟩ rs K := ⟨⟨T, H⟩, ⟨rfl, rfl⟩, .inl ⟨hw, rh, _, hok, h⟩⟩
theorem Ws {v : AV} {g : Nat} {b : Bx} (hok : OpOK P E nt ops ⟨none, op, ty, pos, af, gd⟩ (St.t ⟨T, H⟩) (St.h ⟨T, H⟩) rh ⟨v, [(g, b)]⟩) (hw : wantedA ops ⟨none, op, ty, pos, af, gd⟩ (St.t ⟨T, H⟩) = some true)
    (h : AWops P E nt ops l ⟨T, (g, b) :: H⟩ (rs ++ [⟨rh, [g]⟩]) K) : AWops P E nt ops (⟨none, op, ty, pos, af, gd⟩ :: l) ⟨T, H⟩ rs K := ⟨⟨T, H⟩, ⟨rfl, rfl⟩, .inl ⟨hw, rh, _, hok, h⟩⟩
theorem Wn {v : AV} (hok : OpOK P E nt ops ⟨none, op, ty, pos, af, gd⟩ (St.t ⟨T, H⟩) (St.h ⟨T, H⟩) rh ⟨v, []⟩) (hw : wantedA ops ⟨none, op, ty, pos, af, gd⟩ (St.t ⟨T, H⟩) = some true)
    (h : AWops P E nt ops l ⟨T, H⟩ (rs ++ [⟨rh, []⟩]) K) : AWops P E nt ops (⟨none, op, ty, pos, af, gd⟩ :: l) ⟨T, H⟩ rs K := ⟨⟨T, H⟩, ⟨rfl, rfl⟩, .inl ⟨hw, rh, _, hok, h⟩⟩
/-- an operation that is guarded off -/
theorem Wskip (hw : wantedA ops ⟨some d, op, ty, pos, af, gd⟩ (St.t ⟨T, H⟩) = some false) (hd : dOk nt (some d) = true)
    (h : AWops P E nt ops l ⟨(d, .tup []) :: T, H⟩ (rs ++ [⟨[], []⟩]) K) : AWops P E nt ops (⟨some d, op, ty, pos, af, gd⟩ :: l) ⟨T, H⟩ rs K := ⟨⟨T, H⟩, ⟨rfl, rfl⟩, .inr ⟨hw, hd, h⟩⟩
/-- a slot, in other words -/
theorem Was (s : Nat) (y : AV) (hs : look s T = some y) {o : Oper} (h : AWops P E nt ops (o :: l) ⟨(s, y) :: T, H⟩ rs K) : AWops P E nt ops (o :: l) ⟨T, H⟩ rs K := by
  obtain ⟨S, ⟨h1, h2⟩, h3⟩ := h
  refine ⟨S, ⟨h1.trans ?_, h2⟩, h3⟩
  show (fun k => look k ((s, y) :: T)) = fun k => look k T
  rw [look_cons]
  exact upd_eta hs
/-- a test that is known: its slot says so -/
theorem Wtest (s : Nat) (b : Bool) {c : Bool} (hs : look s T = some (.v (.bool c))) (hc : c = b) {o : Oper} (h : AWops P E nt ops (o :: l) ⟨(s, .v (.bool b)) :: T, H⟩ rs K) : AWops P E nt ops (o :: l) ⟨T, H⟩ rs K := by
  subst hc
  obtain ⟨S, ⟨h1, h2⟩, h3⟩ := h
  refine ⟨S, ⟨h1.trans ?_, h2⟩, h3⟩
  show (fun k => look k ((s, AV.v (.bool c)) :: T)) = fun k => look k T
  rw [look_cons]
  exact upd_eta hs
end

/-! ### states that say less -/
mutual
/-- which boxes a value names -/
def namesA : AV → List Nat
  | .v _ => []
  | .agg _ fs => namesL fs
  | .arr _ _ _ => []
  | .ptr g _ _ => [g]
  | .ref _ => []
  | .sl none _ _ => []
  | .sl (some t) _ _ => [t]
  | .seg g _ _ _ _ _ => [g]
  | .tup vs => namesL vs
  | .fn _ a b => namesL a ++ namesL b
  | .ifc _ x => namesA x
def namesL : List AV → List Nat
  | [] => []
  | x :: l => namesA x ++ namesL l
end
section
variable {U : Uns} {w : World} {B B' : Blk} {H H' : Hp}
mutual
theorem Rd_names : ∀ (x : AV), (∀ g ∈ namesA x, H' g = H g ∧ B' g = B g) → ∀ {cs : List Value}, Rd U w x B H cs → Rd U w x B' H' cs
  | .v x, _, _, h => by simpa [Rd] using h
  | .agg n fs, d, _, h => by
    simp only [Rd] at h ⊢
    exact ⟨h.1, Rds_names fs (by simpa [namesA] using d) h.2⟩
  | .arr m n xs, _, _, h => by simpa [Rd] using h
  | .ref x, _, _, h => by simpa [Rd] using h
  | .sl none n xs, _, _, h => by simpa [Rd] using h
  | .sl (some t) n xs, d, _, h => by
    simp only [Rd] at h ⊢
    obtain ⟨A, cap, h1, h2, h3, h4, h5⟩ := h
    refine ⟨A, cap, h1, h2, h3, h4, fun t' ht => ?_⟩
    injection ht with ht
    subst ht
    obtain ⟨k1, k2⟩ := d t (by simp [namesA])
    unfold TokOk
    rw [k1, k2]
    exact h5 t rfl
  | .ptr g _ _, d, _, h => by
    simp only [Rd] at h ⊢
    obtain ⟨k1, k2⟩ := d g (by simp [namesA])
    rw [k1, k2]; exact h
  | .seg g _ _ _ _ _, d, _, h => by
    simp only [Rd] at h ⊢
    obtain ⟨k1, k2⟩ := d g (by simp [namesA])
    rw [k1, k2]; exact h
  | .tup _, _, _, h => by simp [Rd] at h
  | .fn f a b, d, _, h => by
    simp only [Rd] at h ⊢
    simp only [namesA, List.mem_append] at d
    obtain ⟨c1, c2, h1, h2, h3⟩ := h
    exact ⟨c1, c2, h1, Rdp_names a (fun g hg => d g (.inl hg)) h2, Rdp_names b (fun g hg => d g (.inr hg)) h3⟩
  | .ifc t x, d, _, h => by
    simp only [Rd] at h ⊢
    obtain ⟨c, h1, h2⟩ := h
    exact ⟨c, Rd_names x (by simpa [namesA] using d) h1, h2⟩
theorem Rds_names : ∀ (xs : List AV), (∀ g ∈ namesL xs, H' g = H g ∧ B' g = B g) → ∀ {cs : List Value}, Rds U w xs B H cs → Rds U w xs B' H' cs
  | [], _, _, h => by simpa [Rds] using h
  | x :: xs, d, _, h => by
    simp only [Rds] at h ⊢
    simp only [namesL, List.mem_append] at d
    obtain ⟨c1, c2, h1, h2, h3⟩ := h
    exact ⟨c1, c2, h1, Rd_names x (fun g hg => d g (.inl hg)) h2, Rds_names xs (fun g hg => d g (.inr hg)) h3⟩
theorem Rdp_names : ∀ (xs : List AV), (∀ g ∈ namesL xs, H' g = H g ∧ B' g = B g) → ∀ {cs : List Value}, Rdp U w xs B H cs → Rdp U w xs B' H' cs
  | [], _, _, h => by simpa [Rdp] using h
  | x :: xs, d, _, h => by
    simp only [Rdp] at h ⊢
    simp only [namesL, List.mem_append] at d
    obtain ⟨c, vs, h1, h2, h3⟩ := h
    exact ⟨c, vs, h1, Rd_names x (fun g hg => d g (.inl hg)) h2, Rdp_names xs (fun g hg => d g (.inr hg)) h3⟩
end
theorem Rdv_names {x : AV} {v : Value} (d : ∀ g ∈ namesA x, H' g = H g ∧ B' g = B g) (h : Rdv U w B H x v) : Rdv U w B' H' x v := by
  rcases isTup x with ⟨xs, rfl⟩ | hx
  · rw [Rdv_tup] at h ⊢
    obtain ⟨vs, h1, h2⟩ := h
    exact ⟨vs, h1, Rdp_names xs (by simpa [namesA] using d) h2⟩
  · rw [Rdv_not hx] at h ⊢
    obtain ⟨c, h1, h2⟩ := h
    exact ⟨c, Rd_names x d h1, h2⟩
end
def boxNames : Bx → List Nat
  | .var x => namesA x
  | .froz x => namesA x
  | .tail _ _ _ => []
/-- S' says of fewer slots and boxes what S says -/
def SubT (T : List (Nat × AV)) (H' : List (Nat × Bx)) : List (Nat × AV) → Prop
  | [] => True
  | (s, x) :: l => look s T = some x ∧ (namesA x).all (fun g => (look g H').isSome) = true ∧ SubT T H' l
def SubH (H H' : List (Nat × Bx)) : List (Nat × Bx) → Prop
  | [] => True
  | (s, x) :: l => look s H = some x ∧ (boxNames x).all (fun g => (look g H').isSome) = true ∧ SubH H H' l
def Sub (S S' : St) : Prop := SubT S.T S'.H S'.T ∧ SubH S.H S'.H S'.H
theorem SubT.all {T : List (Nat × AV)} {H' : List (Nat × Bx)} : ∀ {l : List (Nat × AV)}, SubT T H' l → ∀ p ∈ l, look p.1 T = some p.2 ∧ (namesA p.2).all (fun g => (look g H').isSome) = true
  | [], _, p, h => by cases h
  | (s, x) :: l, ⟨h1, h2, h3⟩, p, h => by
    rcases List.mem_cons.1 h with rfl | h
    · exact ⟨h1, h2⟩
    · exact h3.all p h
theorem SubH.all {H H' : List (Nat × Bx)} : ∀ {l : List (Nat × Bx)}, SubH H H' l → ∀ p ∈ l, look p.1 H = some p.2 ∧ (boxNames p.2).all (fun g => (look g H').isSome) = true
  | [], _, p, h => by cases h
  | (s, x) :: l, ⟨h1, h2, h3⟩, p, h => by
    rcases List.mem_cons.1 h with rfl | h
    · exact ⟨h1, h2⟩
    · exact h3.all p h
theorem look_mem {α : Type} : ∀ {l : List (Nat × α)} {k : Nat} {v : α}, look k l = some v → (k, v) ∈ l
  | [], _, _, h => by cases h
  | (j, u) :: l, k, v, h => by
    simp only [look] at h
    cases hb : Nat.beq j k
    · rw [hb] at h; exact List.mem_cons_of_mem _ (look_mem h)
    · rw [hb] at h
      simp only [cond_true, Option.some.injEq] at h
      rw [← Nat.eq_of_beq_eq_true hb, h]; exact List.mem_cons_self
theorem Sub.rel {E : Env} {nt : Nat} {S S' : St} (h : Sub S S') {B : Blk} {a : Act} {w : World} (r : Rel E nt B S.t S.h a w) : ∃ B', Rel E nt B' S'.t S'.h a w := by
  obtain ⟨hT, hH⟩ := h
  replace hT := hT.all
  replace hH := hH.all
  have hb : ∀ g bx, S'.h g = some bx → S.h g = some bx := fun g bx h => (hH (g, bx) (look_mem h)).1
  let B' : Blk := fun g => if (S'.h g).isSome then B g else none
  have eB : ∀ g, (S'.h g).isSome = true → S'.h g = S.h g ∧ B' g = B g := by
    intro g hg
    refine ⟨?_, by simp [B', hg]⟩
    cases h : S'.h g with
    | none => rw [h] at hg; cases hg
    | some bx => exact (hb g bx h).symm
  have hun : ∀ b o, unst E B' S'.h b o → unst E B S.h b o := by
    rintro b o (h | ⟨g, h1, h2⟩)
    · exact .inl h
    · refine .inr ⟨g, ?_, ?_⟩
      · simp only [B'] at h1
        split at h1
        · exact h1
        · cases h1
      · cases hg : S'.h g with
        | none => rw [hg] at h2; exact h2.elim
        | some bx => rw [hb g bx hg]; rw [hg] at h2; exact h2
  have sub : ∀ {x : AV} {cs : List Value}, (∀ g ∈ namesA x, (S'.h g).isSome = true) → Rd (unst E B S.h) w x B S.h cs → Rd (unst E B' S'.h) w x B' S'.h cs := fun {x cs} hx h =>
    Rd_names x (fun g hg => (eB g (hx g hg))) (Rd_go (Evo.refl _ w) (fun b o _ h => hun b o h) x ⟨fun _ _ _ h => h, fun _ h => h, fun _ _ _ _ _ h => h⟩ h)
  refine ⟨B', r.nt, r.df, fun s x hs => ?_, fun g bx hg => ?_, fun g hg => by simp [B', hg], fun g g' b h1 h2 h3 h4 => ?_, r.left⟩
  · obtain ⟨h1, h2⟩ := hT (s, x) (look_mem hs)
    obtain ⟨v, h3, h4⟩ := r.tmp s x h1
    refine ⟨v, h3, Rdv_names (fun g hg => eB g ?_) (Rdv_sub hun h4)⟩
    rw [List.all_eq_true] at h2
    exact h2 g hg
  · obtain ⟨h1, h2⟩ := hH (g, bx) (look_mem hg)
    rw [List.all_eq_true] at h2
    have h3 := r.box g bx h1
    have e2 := (eB g (by rw [hg]; rfl)).2
    cases bx with
    | var x =>
      obtain ⟨b, cs, t, k1, k2, k3, k4⟩ := h3
      exact ⟨b, cs, t, e2.trans k1, k2, sub (fun g hg => h2 g hg) k3, k4⟩
    | froz x =>
      obtain ⟨b, cs, k1, k2, k3, k4⟩ := h3
      exact ⟨b, cs, e2.trans k1, k2, fun o h5 h6 h7 => k3 o h5 h6 (hun b o h7), sub (fun g hg => h2 g hg) k4⟩
    | tail e n k =>
      obtain ⟨k0, k1⟩ := h3
      refine ⟨k0, ?_⟩
      rw [e2]; exact k1
  · have hl : ∀ j, live (S'.h j) = true → live (S.h j) = true ∧ B' j = B j := by
      intro j hj
      cases hh : S'.h j with
      | none => rw [hh] at hj; cases hj
      | some bx => exact ⟨by rw [hb j bx hh, ← hh]; exact hj, (eB j (by rw [hh]; rfl)).2⟩
    obtain ⟨k1, k2⟩ := hl g h1
    obtain ⟨k3, k4⟩ := hl g' h2
    exact r.inj g g' b k1 k3 (k2 ▸ h3) (k4 ▸ h4)
/-- from S on the state may be read as S' -/
def Go2 (E : Env) (nt : Nat) (S S' : St) : Prop := ∀ B a w, Rel E nt B S.t S.h a w → ∃ B', Rel E nt B' S'.t S'.h a w
theorem Go2.sub {E : Env} {nt : Nat} {S S' : St} (h : Sub S S') : Go2 E nt S S' := fun _ _ _ r => h.rel r
theorem Go2.same {E : Env} {nt : Nat} {S S' : St} (h1 : S'.t = S.t) (h2 : S'.h = S.h) : Go2 E nt S S' := fun B a w r => ⟨B, by rw [h1, h2]; exact r⟩
theorem Go2.as {E : Env} {nt : Nat} {T : List (Nat × AV)} {H : List (Nat × Bx)} (s : Nat) (y : AV) (hs : look s T = some y) : Go2 E nt ⟨T, H⟩ ⟨(s, y) :: T, H⟩ := Go2.same ((look_cons _ _ _).trans (upd_eta hs)) rfl
theorem Go2.asB {E : Env} {nt : Nat} {T : List (Nat × AV)} {H : List (Nat × Bx)} (g : Nat) (y : Bx) (hs : look g H = some y) : Go2 E nt ⟨T, H⟩ ⟨T, (g, y) :: H⟩ := Go2.same rfl ((look_cons _ _ _).trans (upd_eta hs))
theorem Go2.trans {E : Env} {nt : Nat} {S S' S'' : St} (h : Go2 E nt S S') (k : Go2 E nt S' S'') : Go2 E nt S S'' := fun B a w r => by
  obtain ⟨B', r'⟩ := h B a w r
  exact k B' a w r'
/-- a nil slice in a slot: a row that has no block yet -/
theorem Go2.token {E : Env} {nt : Nat} {T : List (Nat × AV)} {H : List (Nat × Bx)} (s g n : Nat) (e : TypeId) (hs : look s T = some (.v (.slice none 0 0))) (hg : look g H = none) : Go2 E nt ⟨T, H⟩ ⟨(s, .sl (some g) (n + 1) []) :: T, (g, .tail e (n + 1) 0) :: H⟩ := fun B a w r => by
  have r1 := r.token (g := g) (n := n + 1) (e := e) hg (Nat.succ_pos n)
  refine ⟨B, r1.nt, r1.df, fun s' x hx => ?_, fun g' bx h => ?_, fun g' h => ?_, fun g1 g2 b h1 h2 => ?_, r1.left⟩
  all_goals have eH : St.h ⟨(s, AV.sl (some g) (n + 1) []) :: T, (g, .tail e (n + 1) 0) :: H⟩ = upd (St.h ⟨T, H⟩) g (.tail e (n + 1) 0) := look_cons _ _ _
  · have eT : St.t ⟨(s, AV.sl (some g) (n + 1) []) :: T, (g, .tail e (n + 1) 0) :: H⟩ = upd (St.t ⟨T, H⟩) s (.sl (some g) (n + 1) []) := look_cons _ _ _
    rw [eH]
    rw [eT] at hx
    by_cases h : s' = s
    · subst h
      rw [upd_same] at hx
      injection hx with hx
      subst hx
      obtain ⟨v, h1, h2⟩ := r1.tmp s' _ hs
      rw [Rdv_v] at h2
      refine ⟨v, h1, ?_⟩
      rw [Rdv_not (by simp), h2.2]
      exact ⟨[_], nil_token (upd_same _ _ _) (r.non g hg), rfl⟩
    · rw [upd_ne _ _ h] at hx
      exact r1.tmp s' x hx
  · rw [eH] at h ⊢; exact r1.box g' bx h
  · rw [eH] at h; exact r1.non g' h
  · rw [eH] at h1 h2; exact r1.inj g1 g2 b h1 h2
section
variable {P : Program} {E : Env} {nt : Nat} {S S' : St} {Q : Exit → St → Prop} {c : Code}
theorem AW_go (h : Go2 E nt S S') (k : AW P E nt c S' Q) : AW P E nt c S Q := fun B a w r => by
  obtain ⟨B', r'⟩ := h B a w r
  exact k B' a w r'
theorem AW_loopI {ι : Type} (I : ι → St) (J : ι → Prop) (μ : ι → Nat) (i0 : ι) (h0 : J i0) (hs : Go2 E nt S (I i0))
    (round : ∀ i, J i → AW P E nt c (I i) (thenA (fun S' => ∃ j, J j ∧ μ j < μ i ∧ Go2 E nt S' (I j)) Q)) : AW P E nt (.loop c) S Q := by
  intro B a w r
  obtain ⟨B0, r0⟩ := hs B a w r
  have key : ∀ n i, μ i = n → J i → ∀ B a w, Rel E nt B (I i).t (I i).h a w → ∀ (b : Frame) (k : List Item) (cs : List Frame),
      ∃ e a' w', (∃ B' S', Rel E nt B' S'.t S'.h a' w' ∧ Q e S') ∧ Arrives P (lone (b.at a (.code c :: .inLoop c :: k)) cs w) b k cs e a' w' := by
    intro n
    induction n using Nat.strongRecOn with
    | _ n ih =>
      intro i hn hJ B a w r b k cs
      obtain ⟨e, a₁, w₁, ⟨B₁, S₁, r₁, hq⟩, harr⟩ := round i hJ B a w r b (.inLoop c :: k) cs
      cases e with
      | normal =>
        obtain ⟨j, hJj, hlt, hsub⟩ := hq
        obtain ⟨B₂, r₂⟩ := hsub _ _ _ r₁
        obtain ⟨e₂, a₂, w₂, hq₂, harr₂⟩ := ih (μ j) (hn ▸ hlt) j rfl hJj B₂ a₁ w₁ r₂ b k cs
        exact ⟨e₂, a₂, w₂, hq₂, .of_steps (Steps.trans harr (.one step_inLoop)) harr₂⟩
      | exit id => exact ⟨_, a₁, w₁, ⟨B₁, S₁, r₁, hq⟩, .pass (x := .inLoop c) rfl (fun _ _ => .inl (by simp)) harr⟩
      | goto l => exact ⟨_, a₁, w₁, ⟨B₁, S₁, r₁, hq⟩, .pass (x := .inLoop c) rfl (fun _ _ => .inl (by simp)) harr⟩
      | ret => exact ⟨_, a₁, w₁, ⟨B₁, S₁, r₁, hq⟩, .pass (x := .inLoop c) rfl (fun _ _ => .inl (by simp)) harr⟩
      | panic ch => exact ⟨_, a₁, w₁, ⟨B₁, S₁, r₁, hq⟩, .pass (x := .inLoop c) rfl (fun _ _ => .inl (by simp)) harr⟩
      | outgrown => exact hq.elim
  intro b k cs
  obtain ⟨e, a', w', hq, harr⟩ := key _ i0 rfl h0 B0 a w r0 b k cs
  exact ⟨e, a', w', hq, .of_steps (.one step_loop) harr⟩
/-- where ways meet again -/
theorem AW_seq_to {x y : Code} (I : St → Prop) (h : AW P E nt x S (thenA I Q)) (k : ∀ S', I S' → AW P E nt y S' Q) : AW P E nt (.seq x y) S Q :=
  AW_seq (h.mono fun e S' hq => by
    cases e with
    | normal => exact k S' hq
    | _ => exact hq)
end
end Go.Proofs.Ytigbkhjcboecjaa
