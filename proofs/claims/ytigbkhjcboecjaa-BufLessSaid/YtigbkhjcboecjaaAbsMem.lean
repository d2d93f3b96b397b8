/-
  AbsMem: how the relation of boxes to the world is kept: a store, a new box, an append; what lies at a path. Of no one program.
-/
import Derived.Test.YtigbkhjcboecjaaAbsOps
import Derived.Deep.AppendSrc
import Derived.Deep.Upon
namespace Go.Proofs.Ytigbkhjcboecjaa
open Go Go.RowKit
set_option linter.unusedVariables false
set_option linter.unusedSimpArgs false

section
variable {E : Env} {nt : Nat} {B B' : Blk} {T : Nat → Option AV} {H H' : Hp} {a : Act} {w w' : World}
theorem heap_lt {b : Nat} {o : Obj} (h : w.heap[b]? = some o) : b < w.heap.size := (Array.getElem?_eq_some_iff.1 h).1
/-- a live box's block lies in the world -/
theorem Rel.blk_lt (r : Rel E nt B T H a w) {g b : Nat} {bx : Bx} (h : H g = some bx) (hb : B g = some b) : b < w.heap.size := by
  have h1 := r.box g bx h
  cases bx with
  | var x => obtain ⟨b', cs, t, k1, k2, _⟩ := h1; rw [hb] at k1; injection k1 with k1; subst k1; exact heap_lt k2
  | froz x => obtain ⟨b', cs, k1, k2, _⟩ := h1; rw [hb] at k1; injection k1 with k1; subst k1; exact row_lt k2
  | tail e n k =>
    rcases h1.2 with ⟨k1, _⟩ | ⟨b', cur, cap, k1, k2, _⟩
    · rw [hb] at k1; cases k1
    · rw [hb] at k1; injection k1 with k1; subst k1; exact heap_lt k2
theorem Rel.unst_lt (r : Rel E nt B T H a w) {b o : Nat} (h : unst E B H b o) : b < w.heap.size := by
  rcases h with ⟨h, _⟩ | ⟨g, hb, h⟩
  · exact Nat.lt_of_lt_of_le h r.left.size
  · cases hg : H g with
    | none => rw [hg] at h; exact h.elim
    | some bx => exact r.blk_lt hg hb
theorem Rel.move (r : Rel E nt B T H a w) (evo : Evo (unst E B H) w w') (hU : ∀ b o, b < w.heap.size → unst E B' H' b o → unst E B H b o) (pic : Pic w w' B B' H H') (left : Left E w')
    (box : ∀ g bx, H' g = some bx → RelBox E B' H' w' g bx ∨ (H g = some bx ∧ B' g = B g ∧ ∀ b, live (some bx) = true → B g = some b → w'.heap[b]? = w.heap[b]?))
    (non : ∀ g, H' g = none → B' g = none) (inj : ∀ g g' b, live (H' g) = true → live (H' g') = true → B' g = some b → B' g' = some b → g = g') : Rel E nt B' T H' a w' := ⟨r.nt, r.df, fun s x h => by
    obtain ⟨v, h1, h2⟩ := r.tmp s x h
    exact ⟨v, h1, Rdv_go evo hU pic h2⟩, fun g bx h => by
    rcases box g bx h with h1 | ⟨h1, h2, h3⟩
    · exact h1
    · have hb := r.box g bx h1
      cases bx with
      | var x =>
        obtain ⟨b, cs, t, k1, k2, k3, k4⟩ := hb
        exact ⟨b, cs, t, h2.trans k1, (h3 b rfl k1).trans k2, Rd_go evo hU x pic k3, k4⟩
      | froz x =>
        obtain ⟨b, cs, k1, k2, k3, k4⟩ := hb
        exact ⟨b, cs, h2.trans k1, evo.row k2 k3, quiet_sub hU k2 k3, Rd_go evo hU x pic k4⟩
      | tail e n k =>
        obtain ⟨h0, hb⟩ := hb
        refine ⟨h0, ?_⟩
        rcases hb with ⟨k1, k2⟩ | ⟨b, cur, cap, k1, k2, k3⟩
        · exact .inl ⟨h2.trans k1, k2⟩
        · exact .inr ⟨b, cur, cap, h2.trans k1, (h3 b rfl k1).trans k2, k3⟩, non, inj, left⟩
/-- a block's cells turned, all else as it was -/
structure Turned (w w' : World) (b : Nat) : Prop where
  os : w'.os = w.os
  tape : w'.tape = w.tape
  output : w'.output = w.output
  size : w'.heap.size = w.heap.size
  other : ∀ k, k ≠ b → w'.heap[k]? = w.heap[k]?
theorem Turned.evo {U : Uns} {b : Nat} (t : Turned w w' b) {cs cs' : Array Value} {ty : TypeId} {fr : Nat × Nat} (h : w.heap[b]? = some (.cells cs ty fr)) (h' : w'.heap[b]? = some (.cells cs' ty fr)) (hs : cs'.size = cs.size) (hc : ∀ o, ¬ U b o → cs'[o]? = cs[o]?) : Evo U w w' := by
  refine ⟨Nat.le_of_eq t.size.symm, fun k c t' f hk => ?_⟩
  by_cases hkb : k = b
  · subst hkb
    rw [h] at hk
    injection hk with hk
    injection hk with h1 h2 h3
    subst h1 h2 h3
    exact ⟨cs', h', hs, hc⟩
  · exact ⟨c, (t.other k hkb).trans hk, rfl, fun _ _ => rfl⟩
theorem Turned.left {b : Nat} (t : Turned w w' b) (l : Left E w) (hb : E.w0.heap.size ≤ b ∨ E.ent b) : Left E w' :=
  ⟨t.os.trans l.os, t.tape.trans l.tape, t.output.trans l.output, by rw [t.size]; exact l.size, fun k hk he => by
    rcases hb with hb | hb
    · exact (t.other k (by omega)).trans (l.block k hk he)
    · exact (t.other k (fun e => he (e ▸ hb))).trans (l.block k hk he)⟩
theorem live_upd {g j : Nat} {bx : Bx} (hg : live (H g) = live (some bx)) : live (upd H g bx j) = live (H j) := by
  unfold upd; split
  · rename_i h; subst h; exact hg.symm
  · rfl
/-- a store into a variable -/
theorem Rel.store (r : Rel E nt B T H a w) {g b : Nat} {x x' : AV} {cs cs' : List Value} {ty : TypeId} (hg : H g = some (.var x)) (hb : B g = some b) (hw : w.heap[b]? = some (.cells cs.toArray ty (0, 0)))
    (ht : Turned w w' b) (hw' : w'.heap[b]? = some (.cells cs'.toArray ty (0, 0))) (hl : cs'.length = cs.length) (hx : Rd (unst E B H) w x' B H cs') : Rel E nt B T (upd H g (.var x')) a w' := by
  have hun : ∀ b' o, unst E B (upd H g (.var x')) b' o ↔ unst E B H b' o := by
    intro b' o
    unfold unst
    refine or_congr Iff.rfl (exists_congr fun j => and_congr_right fun _ => ?_)
    by_cases h : j = g
    · subst h; rw [upd_same, hg]
    · rw [upd_ne _ _ h]
  have hbu : ∀ o, unst E B H b o := fun o => .inr ⟨g, hb, by rw [hg]; trivial⟩
  have evo : Evo (unst E B H) w w' := ht.evo hw hw' (by simp [hl]) (fun o h => absurd (hbu o) h)
  have hlive : live (H g) = true := by rw [hg]; rfl
  have pic : Pic w w' B B H (upd H g (.var x')) := by
    refine ⟨fun _ _ _ h => h, fun j h => ?_, fun t n len A cap h => ?_⟩
    · unfold upd; split
      · rfl
      · exact h
    · obtain ⟨e, k, h1, h2, h3⟩ := h
      have hne : t ≠ g := fun e' => by rw [e', hg] at h1; cases h1
      refine ⟨e, k, by rw [upd_ne _ _ hne]; exact h1, h2, fun hk => ⟨(h3 hk).1, fun b' hb' => ?_⟩⟩
      obtain ⟨k1, cur, k2, k3⟩ := (h3 hk).2 b' hb'
      have hbb : b' ≠ b := fun e' => hne (r.inj t g b (by rw [h1]; rfl) hlive (e' ▸ hb') hb)
      exact ⟨k1, cur, (ht.other b' hbb).trans k2, k3⟩
  have hent : E.w0.heap.size ≤ b ∨ E.ent b := by
    obtain ⟨b', _, _, k1, _, _, k4⟩ := r.box g _ hg
    rw [hb] at k1; injection k1 with k1; subst k1; exact k4
  refine r.move evo (fun b' o _ h => (hun b' o).1 h) pic (ht.left r.left hent) (fun j bx h => ?_) (fun j h => ?_) (fun j j' b' h1 h2 h3 h4 => ?_)
  · by_cases hj : j = g
    · subst hj
      rw [upd_same] at h
      injection h with h
      subst h
      exact .inl ⟨b, cs', ty, hb, hw', Rd_go evo (fun b' o _ h => (hun b' o).1 h) x' pic hx, hent⟩
    · rw [upd_ne _ _ hj] at h
      refine .inr ⟨h, rfl, fun b' hlv hb' => ht.other b' fun e' => hj (r.inj j g b (by rw [h]; exact hlv) hlive (e' ▸ hb') hb)⟩
  · refine r.non j ?_
    by_cases hj : j = g
    · subst hj; rw [upd_same] at h; cases h
    · rwa [upd_ne _ _ hj] at h
  · rw [live_upd (by rw [hg]; rfl)] at h1 h2
    exact r.inj j j' b' h1 h2 h3 h4
theorem unst_new {g : Nat} {bx : Bx} {n : Nat} (hn : ∀ j bj b, H j = some bj → B j = some b → b < n) : ∀ b o, b < n → unst E (upd B g n) (upd H g bx) b o → unst E B H b o := by
  intro b o hb h
  rcases h with h | ⟨j, h1, h2⟩
  · exact .inl h
  · by_cases hj : j = g
    · subst hj
      rw [upd_same] at h1
      injection h1 with h1
      omega
    · rw [upd_ne _ _ hj] at h1 h2
      exact .inr ⟨j, h1, h2⟩
/-- a new block, and a box of it -/
theorem Rel.new (r : Rel E nt B T H a w) {g : Nat} {bx : Bx} {o : Obj} (hg : H g = none) (hx : RelBox E (upd B g w.heap.size) (upd H g bx) (w.alloc o) g bx) : Rel E nt (upd B g w.heap.size) T (upd H g bx) a (w.alloc o) := by
  have hlt : ∀ j bj b, H j = some bj → B j = some b → b < w.heap.size := fun j bj b h1 h2 => r.blk_lt h1 h2
  have pic : Pic w (w.alloc o) B (upd B g w.heap.size) H (upd H g bx) := by
    refine ⟨fun j b h1 h2 => ?_, fun j h => ?_, fun t n len A cap h => ?_⟩
    · have hj : j ≠ g := fun e => by rw [e, hg] at h1; cases h1
      rw [upd_ne _ _ hj]; exact h2
    · have hj : j ≠ g := fun e => by rw [e, hg] at h; cases h
      rw [upd_ne _ _ hj]; exact h
    · obtain ⟨e, k, h1, h2, h3⟩ := h
      have hj : t ≠ g := fun e => by rw [e, hg] at h1; cases h1
      refine ⟨e, k, by rw [upd_ne _ _ hj]; exact h1, h2, ?_⟩
      rw [upd_ne _ _ hj]
      refine fun hk => ⟨(h3 hk).1, fun b hb => ?_⟩
      obtain ⟨k1, cur, k2, k3⟩ := (h3 hk).2 b hb
      exact ⟨k1, cur, (heap_old w o b (heap_lt k2)).trans k2, k3⟩
  refine r.move (Evo.ofExt ((Ext.refl w).alloc o)) (unst_new hlt) pic (r.left.ext ((Ext.refl w).alloc o)) (fun j bj h => ?_) (fun j h => ?_) (fun j j' b h1 h2 h3 h4 => ?_)
  · by_cases hj : j = g
    · subst hj; rw [upd_same] at h; injection h with h; subst h; exact .inl hx
    · rw [upd_ne _ _ hj] at h
      exact .inr ⟨h, upd_ne _ _ hj, fun b _ hb => heap_old w o b (hlt j bj b h hb)⟩
  · by_cases hj : j = g
    · subst hj; rw [upd_same] at h; cases h
    · rw [upd_ne _ _ hj] at h ⊢; exact r.non j h
  · have big : ∀ j, j ≠ g → live (upd H g bx j) = true → upd B g w.heap.size j = some b → b < w.heap.size := by
      intro j hj hl hb
      rw [upd_ne _ _ hj] at hl hb
      cases hh : H j with
      | none => rw [hh] at hl; cases hl
      | some bj => exact hlt j bj b hh hb
    by_cases hj : j = g
    · by_cases hj' : j' = g
      · rw [hj, hj']
      · have := big j' hj' h2 h4
        subst hj
        rw [upd_same] at h3
        injection h3 with h3
        omega
    · by_cases hj' : j' = g
      · have := big j hj h1 h3
        subst hj'
        rw [upd_same] at h4
        injection h4 with h4
        omega
      · rw [upd_ne _ _ hj] at h1 h3
        rw [upd_ne _ _ hj'] at h2 h4
        exact r.inj j j' b h1 h2 h3 h4
/-- a row goes on in a new block -/
theorem Rel.regrow (r : Rel E nt B T H a w) {t n k k' : Nat} {e : TypeId} {o : Obj} (hg : H t = some (.tail e n k)) (hk : k < k') (hx : RelBox E (upd B t w.heap.size) (upd H t (.tail e n k')) (w.drew.alloc o) t (.tail e n k')) : Rel E nt (upd B t w.heap.size) T (upd H t (.tail e n k')) a (w.drew.alloc o) := by
  have hlt : ∀ j bj b, H j = some bj → B j = some b → b < w.heap.size := fun j bj b h1 h2 => r.blk_lt h1 h2
  have hext : Ext w (w.drew.alloc o) := (Ext.refl w).drew.alloc o
  have pic : Pic w (w.drew.alloc o) B (upd B t w.heap.size) H (upd H t (.tail e n k')) := by
    refine ⟨fun j b h1 h2 => ?_, fun j h => ?_, fun t' n' len A cap h => ?_⟩
    · have hj : j ≠ t := fun e => by rw [e, hg] at h1; cases h1
      rw [upd_ne _ _ hj]; exact h2
    · have hj : j ≠ t := fun e => by rw [e, hg] at h; cases h
      rw [upd_ne _ _ hj]; exact h
    · obtain ⟨e', q, h1, h2, h3⟩ := h
      by_cases hj : t' = t
      · subst hj
        rw [hg] at h1
        injection h1 with h1
        injection h1 with e1 e2 e3
        subst e1 e2 e3
        exact ⟨e, k', upd_same _ _ _, by omega, fun h => by omega⟩
      · refine ⟨e', q, by rw [upd_ne _ _ hj]; exact h1, h2, ?_⟩
        rw [upd_ne _ _ hj]
        refine fun hk => ⟨(h3 hk).1, fun b hb => ?_⟩
        obtain ⟨k1, cur, k2, k3⟩ := (h3 hk).2 b hb
        exact ⟨k1, cur, hext.heap k2, k3⟩
  refine r.move (Evo.ofExt hext) (fun b o hb h => unst_new hlt b o hb h) pic (r.left.ext hext) (fun j bj h => ?_) (fun j h => ?_) (fun j j' b h1 h2 h3 h4 => ?_)
  · by_cases hj : j = t
    · subst hj; rw [upd_same] at h; injection h with h; subst h; exact .inl hx
    · rw [upd_ne _ _ hj] at h
      refine .inr ⟨h, upd_ne _ _ hj, fun b _ hb => ?_⟩
      have hbl := hlt j bj b h hb
      exact hext.block b hbl
  · by_cases hj : j = t
    · subst hj; rw [upd_same] at h; cases h
    · rw [upd_ne _ _ hj] at h ⊢; exact r.non j h
  · have big : ∀ j, j ≠ t → live (upd H t (.tail e n k') j) = true → upd B t w.heap.size j = some b → b < w.heap.size := by
      intro j hj hl hb
      rw [upd_ne _ _ hj] at hl hb
      cases hh : H j with
      | none => rw [hh] at hl; cases hl
      | some bj => exact hlt j bj b hh hb
    by_cases hj : j = t
    · by_cases hj' : j' = t
      · rw [hj, hj']
      · have := big j' hj' h2 h4
        subst hj
        rw [upd_same] at h3
        injection h3 with h3
        omega
    · by_cases hj' : j' = t
      · have := big j hj h1 h3
        subst hj'
        rw [upd_same] at h4
        injection h4 with h4
        omega
      · rw [upd_ne _ _ hj] at h1 h3
        rw [upd_ne _ _ hj'] at h2 h4
        exact r.inj j j' b h1 h2 h3 h4
/-- a row goes on in its block -/
theorem Rel.room (r : Rel E nt B T H a w) {t n k k' b cap : Nat} {e : TypeId} {cur cur' : Array Value} (hg : H t = some (.tail e n k)) (hk : k < k') (hb : B t = some b) (hw : w.heap[b]? = some (.cells cur e (0, 0))) (hs : cur.size = cap * n) (hc : k' ≤ cap) (hm : cap ≤ maxLen)
    (ht : Turned w w' b) (hw' : w'.heap[b]? = some (.cells cur' e (0, 0))) (hl : cur'.size = cur.size) (hold : ∀ o, o < k * n → cur'[o]? = cur[o]?) : Rel E nt B T (upd H t (.tail e n k')) a w' := by
  have hlive : live (H t) = true := by rw [hg]; rfl
  have hbox := r.box t _ hg
  have hn : 0 < n := hbox.1
  have hent : E.w0.heap.size ≤ b := by
    rcases hbox.2 with ⟨k1, _⟩ | ⟨b', _, _, k1, _, _, _, _, k4⟩
    · rw [hb] at k1; cases k1
    · rw [hb] at k1; injection k1 with k1; subst k1; exact k4
  have hsub : ∀ b' o, unst E B (upd H t (.tail e n k')) b' o → unst E B H b' o := by
    rintro b' o (h | ⟨j, h1, h2⟩)
    · exact .inl h
    · refine .inr ⟨j, h1, ?_⟩
      by_cases hj : j = t
      · subst hj
        rw [upd_same] at h2
        rw [hg]
        have : k * n ≤ k' * n := Nat.mul_le_mul_right n (by omega)
        show k * n ≤ o
        have h2' : k' * n ≤ o := h2
        omega
      · rwa [upd_ne _ _ hj] at h2
  have evo : Evo (unst E B H) w w' := ht.evo hw hw' hl (fun o h => by
    refine hold o ?_
    rcases Nat.lt_or_ge o (k * n) with h' | h'
    · exact h'
    · exact absurd (.inr ⟨t, hb, by rw [hg]; exact h'⟩) h)
  have pic : Pic w w' B B H (upd H t (.tail e n k')) := by
    refine ⟨fun _ _ _ h => h, fun j h => ?_, fun t' n' len A cap' h => ?_⟩
    · have hj : j ≠ t := fun e => by rw [e, hg] at h; cases h
      rw [upd_ne _ _ hj]; exact h
    · obtain ⟨e', q, h1, h2, h3⟩ := h
      by_cases hj : t' = t
      · subst hj
        rw [hg] at h1
        injection h1 with h1
        injection h1 with e1 e2 e3
        subst e1 e2 e3
        exact ⟨e, k', upd_same _ _ _, by omega, fun h => by omega⟩
      · refine ⟨e', q, by rw [upd_ne _ _ hj]; exact h1, h2, fun hk => ⟨(h3 hk).1, fun b' hb' => ?_⟩⟩
        obtain ⟨k1, cur, k2, k3⟩ := (h3 hk).2 b' hb'
        have hbb : b' ≠ b := fun e' => hj (r.inj t' t b (by rw [h1]; rfl) hlive (e' ▸ hb') hb)
        exact ⟨k1, cur, (ht.other b' hbb).trans k2, k3⟩
  refine r.move evo (fun b' o _ h => hsub b' o h) pic (ht.left r.left (.inl hent)) (fun j bj h => ?_) (fun j h => ?_) (fun j j' b' h1 h2 h3 h4 => ?_)
  · by_cases hj : j = t
    · subst hj
      rw [upd_same] at h
      injection h with h
      subst h
      exact .inl ⟨hn, .inr ⟨b, cur', cap, hb, hw', by rw [hl]; exact hs, hc, hm, hent⟩⟩
    · rw [upd_ne _ _ hj] at h
      exact .inr ⟨h, rfl, fun b' hlv hb' => ht.other b' fun e' => hj (r.inj j t b (by rw [h]; exact hlv) hlive (e' ▸ hb') hb)⟩
  · refine r.non j ?_
    by_cases hj : j = t
    · subst hj; rw [upd_same] at h; cases h
    · rwa [upd_ne _ _ hj] at h
  · rw [live_upd (by rw [hg]; rfl)] at h1 h2
    exact r.inj j j' b' h1 h2 h3 h4
theorem upd_eta {α : Type} {f : Nat → Option α} {k : Nat} {v : α} (h : f k = some v) : upd f k v = f := by
  funext j
  unfold upd
  split
  · rename_i e; subst e; exact h.symm
  · rfl
end

/-! ### where an append takes its elements from -/
theorem Rdu_append {U : Uns} {w : World} {n : Nat} {B : Blk} {H : Hp} : ∀ {xs ys : List AV} {c d : List Value}, Rdu U w n xs B H c → Rdu U w n ys B H d → Rdu U w n (xs ++ ys) B H (c ++ d)
  | [], ys, c, d, h1, h2 => by simp only [Rdu] at h1; subst h1; simpa using h2
  | x :: xs, ys, c, d, h1, h2 => by
    simp only [Rdu] at h1
    obtain ⟨c1, c2, rfl, hn, h3, h4⟩ := h1
    rw [List.cons_append]
    simp only [Rdu]
    exact ⟨c1, c2 ++ d, by simp, hn, h3, Rdu_append h4 h2⟩
theorem Rdu_len {U : Uns} {w : World} {n : Nat} {B : Blk} {H : Hp} : ∀ {xs : List AV} {c : List Value}, Rdu U w n xs B H c → c.length = xs.length * n
  | [], c, h => by simp only [Rdu] at h; subst h; simp
  | x :: xs, c, h => by
    simp only [Rdu] at h
    obtain ⟨c1, c2, rfl, hn, h3, h4⟩ := h
    have := Rdu_len h4
    rw [List.length_append, List.length_cons, Nat.succ_mul]; omega
mutual
theorem Rd_one {U : Uns} {w : World} : ∀ (x : AV) {B : Blk} {H : Hp} {c : List Value}, Rd U w x B H c → ∀ v ∈ c, v.oneCell' = true
  | .v x, _, _, c, h => by simp only [Rd] at h; obtain ⟨h1, rfl⟩ := h; simpa using plain_one h1
  | .agg n fs, _, _, c, h => by simp only [Rd] at h; exact Rds_one fs h.2
  | .arr m n xs, _, _, c, h => by simp only [Rd] at h; exact Rdu_one n xs h.2
  | .ptr _ _ _, _, _, c, h => by simp only [Rd] at h; obtain ⟨_, b, _, rfl⟩ := h; simp [Value.oneCell']
  | .ref _, _, _, c, h => by simp only [Rd] at h; obtain ⟨b, off, c', rfl, _⟩ := h; simp [Value.oneCell']
  | .sl _ _ _, _, _, c, h => by simp only [Rd] at h; obtain ⟨A, cap, rfl, _⟩ := h; simp [Value.oneCell']
  | .seg _ _ _ _ _ _, _, _, c, h => by simp only [Rd] at h; obtain ⟨_, b, _, _, _, rfl⟩ := h; simp [Value.oneCell']
  | .tup _, _, _, c, h => by simp [Rd] at h
  | .fn _ _ _, _, _, c, h => by simp only [Rd] at h; obtain ⟨c1, c2, rfl, _⟩ := h; simp [Value.oneCell']
  | .ifc _ _, _, _, c, h => by simp only [Rd] at h; obtain ⟨c1, _, rfl⟩ := h; simp [Value.oneCell']
theorem Rds_one {U : Uns} {w : World} : ∀ (xs : List AV) {B : Blk} {H : Hp} {c : List Value}, Rds U w xs B H c → ∀ v ∈ c, v.oneCell' = true
  | [], _, _, c, h => by simp only [Rds] at h; subst h; simp
  | x :: xs, _, _, c, h => by
    simp only [Rds] at h
    obtain ⟨c1, c2, rfl, h1, h2⟩ := h
    intro v hv
    rcases List.mem_append.1 hv with hv | hv
    · exact Rd_one x h1 v hv
    · exact Rds_one xs h2 v hv
theorem Rdu_one {U : Uns} {w : World} (n : Nat) : ∀ (xs : List AV) {B : Blk} {H : Hp} {c : List Value}, Rdu U w n xs B H c → ∀ v ∈ c, v.oneCell' = true
  | [], _, _, c, h => by simp only [Rdu] at h; subst h; simp
  | x :: xs, _, _, c, h => by
    simp only [Rdu] at h
    obtain ⟨c1, c2, rfl, _, h1, h2⟩ := h
    intro v hv
    rcases List.mem_append.1 hv with hv | hv
    · exact Rd_one x h1 v hv
    · exact Rdu_one n xs h2 v hv
end
theorem cells_of_row {w : World} {b off n : Nat} {c : List Value} (h : row? w b off n = some c.toArray) : ∀ j u, c[j]? = some u → w.cell? ((⟨b, off, none⟩ : Addr).add j) = some u := by
  intro j u hu
  obtain ⟨h1, h2⟩ := row_cells h
  have hj : j < n := by
    have := (List.getElem?_eq_some_iff.1 hu).1
    simp at h1; omega
  have hadd : (⟨b, off, none⟩ : Addr).add j = ⟨b, off + j, none⟩ := by unfold Addr.add; split <;> simp_all
  rw [hadd, h2 j hj]
  simpa using hu
/-- a source of m elements that read as ys -/
def SrcA (P : Program) (E : Env) (B : Blk) (H : Hp) (w : World) (tx : TypeId) (n : Nat) (v : Value) (ys : List AV) : Prop :=
  ∃ news, Src P n tx v ys.length news w ∧ Rdu (unst E B H) w n ys B0 H0 news
theorem SrcA_sl {P : Program} {E : Env} {B : Blk} {H : Hp} {w : World} {tx e : TypeId} {n : Nat} {v : Value} {tok : Option Nat} {ys : List AV} (hk : P.underlying tx = some (.slice e)) (h : Rd (unst E B H) w (.sl tok n ys) B H [v]) : SrcA P E B H w tx n v ys := by
  simp only [Rd] at h
  obtain ⟨A, cap, h1, h2, h3, h4, _⟩ := h
  injection h1 with h1
  subst h1
  cases ys with
  | nil =>
    cases A with
    | none => exact ⟨[], Src.ofNil w hk cap, by simp [Rdu]⟩
    | some ad => exact ⟨[], Src.ofSlice w hk ad 0 cap [] (by simp) (by simp) (by simp), by simp [Rdu]⟩
  | cons y ys =>
    obtain ⟨b, off, c, rfl, k1, k2, k3⟩ := h4 (by simp)
    exact ⟨c, Src.ofSlice w hk _ _ cap c (Rdu_len k3) (cells_of_row k1) (Rdu_one n _ k3), k3⟩
theorem SrcA_nil {P : Program} {E : Env} {B : Blk} {H : Hp} {w : World} {tx e : TypeId} {n : Nat} (hk : P.underlying tx = some (.slice e)) : SrcA P E B H w tx n (.slice none 0 0) [] := ⟨[], Src.ofNil w hk 0, by simp [Rdu]⟩
def bytesAV (s : ByteArray) : List AV := s.data.toList.map fun b => .v (.int .u8 b.toNat)
theorem bytesAV_rdu {U : Uns} {w : World} (s : ByteArray) : Rdu U w 1 (bytesAV s) B0 H0 (byteCells s) := by
  unfold bytesAV byteCells
  induction s.data.toList with
  | nil => simp [Rdu]
  | cons b l ih =>
    simp only [List.map_cons, Rdu]
    exact ⟨[.int .u8 b.toNat], _, rfl, rfl, by simp [Rd, plain], ih⟩
theorem SrcA_str {P : Program} {E : Env} {B : Blk} {H : Hp} {w : World} {tx : TypeId} {s : ByteArray} (hk : P.underlying tx = some .string) : SrcA P E B H w tx 1 (.string s) (bytesAV s) := by
  have hl : (bytesAV s).length = s.size := by
    unfold bytesAV; rw [List.length_map, Array.length_toList]; rfl
  exact ⟨byteCells s, by rw [hl]; exact Src.ofString w hk s, bytesAV_rdu s⟩
end Go.Proofs.Ytigbkhjcboecjaa
