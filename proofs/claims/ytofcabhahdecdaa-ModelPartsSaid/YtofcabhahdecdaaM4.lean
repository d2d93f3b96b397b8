/-
  M4: several texts as one: AbsOwn, AbsCfn, AbsIn, AbsCcall, Model1, Model2, AbsRange, Model3, LeafMore, LawEnts. No condition beyond those that each theorem states.
-/
import Derived.Test.YtofcabhahdecdaaM3
import Derived.RangeFuncNested
import Derived.RangeFuncCalls
import Derived.RangeFuncLeaves
import Derived.Laws.IdiomStrings
import Derived.RangeFuncRecord
namespace Go.Proofs.Ytofcabhahdecdaa
open Go Go.RowKit
set_option linter.unusedVariables false
set_option linter.unusedSimpArgs false
set_option maxRecDepth 100000

section
variable {E : Env} {nt : Nat} {B B' : Blk} {T : Nat → Option AV} {H H' : Hp} {a : Act} {w w' : World}
theorem OwnOk.go {U : Uns} (evo : Evo U w w') {g n len : Nat} {k : OwnK} {v : Value} (hH : H' g = H g) (hB : B' g = B g) (h : OwnOk w B H g n len k v) : OwnOk w' B' H' g n len k v := by
  obtain ⟨e, xs, h1, h2, h3, h4⟩ := h
  refine ⟨e, xs, hH.trans h1, h2, h3, fun hl => ⟨fun hn => (h4 hl).1 (hB ▸ hn), fun b hb => ?_⟩⟩
  obtain ⟨cur, m1, m2⟩ := (h4 hl).2 b (hB ▸ hb)
  obtain ⟨cs', c1, c2, _⟩ := evo.cell b cur e (0, 0) m1
  refine ⟨cs', c1, ?_⟩
  cases k with
  | row => obtain ⟨cap, q1, q2, q3, q4⟩ := m2; exact ⟨cap, q1, q2, q3, c2.trans q4⟩
  | _ => exact m2
theorem row_pre {b m : Nat} {cur : Array Value} {c : List Value} {e : TypeId} (hb : w.heap[b]? = some (.cells cur e (0, 0))) (hpre : ∀ o, o < m → cur[o]? = c[o]?) (hc : c.length = m) (hm : m ≤ cur.size) : row? w b 0 m = some c.toArray := by
  rw [row_block hb]
  unfold rowOf
  rw [if_pos (by omega)]
  congr 1
  apply Array.ext_getElem?
  intro q
  rw [Array.getElem?_extract]
  by_cases hq : q < m
  · rw [if_pos (by omega), Nat.zero_add, hpre q hq]; simp
  · rw [if_neg (by omega), Array.getElem?_eq_none (by simpa using (by omega : c.length ≤ q))]
/-- an own row's block is turned -/
theorem Rel.ownPut (r : Rel E nt B T H a w) {g n b cap : Nat} {e : TypeId} {xs ys : List AV} {cur cur' : Array Value} {c' : List Value} (hg : H g = some (.own e n xs)) (hb : B g = some b) (hw : w.heap[b]? = some (.cells cur e (0, 0))) (hs : cur.size = cap * n) (hle : xs.length ≤ ys.length) (hc : ys.length ≤ cap) (hm : cap ≤ maxLen)
    (ht : Turned w w' b) (hw' : w'.heap[b]? = some (.cells cur' e (0, 0))) (hl : cur'.size = cur.size) (hpre : ∀ o, o < ys.length * n → cur'[o]? = c'[o]?) (hy : Rdu (unst E B H) w n ys B0 H0 c') : Rel E nt B T (upd H g (.own e n ys)) a w' ∧ Evo (unst E B H) w w' := by
  have hlive : live (H g) = true := by rw [hg]; rfl
  obtain ⟨hn, hT, hbox⟩ := r.box g _ hg
  have hent : Mine E b 0 := by
    rcases hbox with ⟨k1, _⟩ | ⟨b', _, _, _, k1, _, _, _, _, _, _, k4⟩
    · rw [hb] at k1; cases k1
    · rw [hb] at k1; injection k1 with k1; subst k1; exact k4
  have hun : ∀ b' o, unst E B (upd H g (.own e n ys)) b' o ↔ unst E B H b' o := by
    intro b' o
    unfold unst
    refine or_congr Iff.rfl (exists_congr fun j => and_congr_right fun _ => ?_)
    by_cases h : j = g
    · subst h; rw [upd_same, hg]
    · rw [upd_ne _ _ h]
  have hbu : ∀ o, unst E B H b o := fun o => .inr ⟨g, hb, by rw [hg]; trivial⟩
  have evo : Evo (unst E B H) w w' := ht.evo hw hw' hl (fun o h => absurd (hbu o) h)
  have hT' : Tie E g ys.length (B g) := fun k0 b0 h => by
    obtain ⟨h1, h2⟩ := hT k0 b0 h
    exact ⟨by omega, fun e => h2 (by omega)⟩
  have pic : Pic w w' B B H (upd H g (.own e n ys)) := by
    refine ⟨fun _ _ _ h => h, fun j h => ?_, fun t n' len A cap' h => ?_, fun g' n' len k v h => ?_⟩
    · have hj : j ≠ g := fun e => by rw [e, hg] at h; cases h
      rw [upd_ne _ _ hj]; exact h
    · obtain ⟨e', q, h1, h2, h3⟩ := h
      have hne : t ≠ g := fun e' => by rw [e', hg] at h1; cases h1
      refine ⟨e', q, by rw [upd_ne _ _ hne]; exact h1, h2, fun hk => ⟨(h3 hk).1, fun b' hb' => ?_⟩⟩
      obtain ⟨k1, cu, k2, k3⟩ := (h3 hk).2 b' hb'
      have hbb : b' ≠ b := fun e' => hne (r.inj t g b (by rw [h1]; rfl) hlive (e' ▸ hb') hb)
      exact ⟨k1, cu, (ht.other b' hbb).trans k2, k3⟩
    · by_cases hj : g' = g
      · subst hj
        obtain ⟨e', xs', h1, h2, h3, h4⟩ := h
        rw [hg] at h1; injection h1 with h1; injection h1 with q1 q2 q3; subst q1 q2 q3
        refine ⟨e, ys, upd_same _ _ _, by omega, h3, fun hk => ⟨fun hn' => (by rw [hb] at hn'; cases hn'), fun b' hb' => ?_⟩⟩
        have hk' : len = xs.length := by omega
        rw [hb] at hb'; injection hb' with hb'; subst hb'
        obtain ⟨cu, m1, m2⟩ := (h4 hk').2 b hb
        rw [hw] at m1; injection m1 with m1; injection m1 with m1 _ _; subst m1
        refine ⟨cur', hw', ?_⟩
        cases k with
        | row => obtain ⟨cp, p1, p2, p3, p4⟩ := m2; exact ⟨cp, p1, p2, p3, hl.trans p4⟩
        | _ => exact m2
      · exact h.go evo (upd_ne _ _ hj) rfl
  refine ⟨r.move evo (fun b' o _ h => (hun b' o).1 h) pic (ht.left r.left hw hw' hl (fun o h => absurd h (Nat.not_lt_zero o)) hent) (fun j bj h => ?_) (fun j h => ?_) (fun j j' b' h1 h2 h3 h4 => ?_), evo⟩
  · by_cases hj : j = g
    · subst hj
      rw [upd_same] at h; injection h with h; subst h
      exact .inl ⟨hn, hT', .inr ⟨b, cur', cap, c', hb, hw', hl.trans hs, hc, hm, hpre, Rdu_go evo (fun b' o _ h => (hun b' o).1 h) n ys (Pic.refl0 _ _) hy, hent⟩⟩
    · rw [upd_ne _ _ hj] at h
      exact .inr ⟨h, rfl, fun b' hlv hb' => ht.other b' fun e' => hj (r.inj j g b (by rw [h]; exact hlv) hlive (e' ▸ hb') hb)⟩
  · by_cases hj : j = g
    · subst hj; rw [upd_same] at h; cases h
    · rw [upd_ne _ _ hj] at h; exact ⟨h, r.non j h⟩
  · rw [live_upd (by rw [hg]; rfl)] at h1 h2
    exact r.inj j j' b' h1 h2 h3 h4
/-- an own row goes on in a new block -/
theorem Rel.ownNew (r : Rel E nt B T H a w) {g n cap : Nat} {e : TypeId} {xs ys : List AV} {cells : Array Value} {c' : List Value} (hg : H g = some (.own e n xs)) (hlt : xs.length < ys.length) (hs : cells.size = cap * n) (hc : ys.length ≤ cap) (hm : cap ≤ maxLen) (hpre : ∀ o, o < ys.length * n → cells[o]? = c'[o]?) (hy : Rdu (unst E B H) w n ys B0 H0 c') :
    Rel E nt (upd B g w.heap.size) T (upd H g (.own e n ys)) a (w.drew.alloc (.cells cells e)) := by
  have hl : ∀ j bj b, H j = some bj → B j = some b → b < w.heap.size := fun j bj b h1 h2 => r.blk_lt h1 h2
  have hext : Ext w (w.drew.alloc (.cells cells e)) := (Ext.refl w).drew.alloc _
  obtain ⟨hn, hT, hbox⟩ := r.box g _ hg
  have pic : Pic w (w.drew.alloc (.cells cells e)) B (upd B g w.heap.size) H (upd H g (.own e n ys)) := by
    refine ⟨fun j b h1 h2 => ?_, fun j h => ?_, fun t' n' len A cap h => ?_, fun g' n' len k v h => ?_⟩
    · have hj : j ≠ g := fun e => by rw [e, hg] at h1; cases h1
      rw [upd_ne _ _ hj]; exact h2
    · have hj : j ≠ g := fun e => by rw [e, hg] at h; cases h
      rw [upd_ne _ _ hj]; exact h
    · obtain ⟨e', q, h1, h2, h3⟩ := h
      have hj : t' ≠ g := fun e => by rw [e, hg] at h1; cases h1
      refine ⟨e', q, by rw [upd_ne _ _ hj]; exact h1, h2, ?_⟩
      rw [upd_ne _ _ hj]
      refine fun hk => ⟨(h3 hk).1, fun b hb => ?_⟩
      obtain ⟨k1, cur, k2, k3⟩ := (h3 hk).2 b hb
      exact ⟨k1, cur, hext.heap k2, k3⟩
    · by_cases hj : g' = g
      · subst hj
        obtain ⟨e', xs', h1, h2, h3, h4⟩ := h
        rw [hg] at h1; injection h1 with h1; injection h1 with q1 q2 q3; subst q1 q2 q3
        exact ⟨e, ys, upd_same _ _ _, by omega, h3, fun hk => by omega⟩
      · exact h.go (U := fun _ _ => False) (Evo.ofExt hext) (upd_ne _ _ hj) (upd_ne _ _ hj)
  have hsub : ∀ b o, b < w.heap.size → unst E (upd B g w.heap.size) (upd H g (.own e n ys)) b o → unst E B H b o := fun b o hb h => unst_new hl b o hb h
  refine r.move (Evo.ofExt hext) hsub pic (r.left.ext hext) (fun j bj h => ?_) (fun j h => ?_) (fun j j' b h1 h2 h3 h4 => ?_)
  · by_cases hj : j = g
    · subst hj; rw [upd_same] at h; injection h with h; subst h
      exact .inl ⟨hn, hT.grow hlt, .inr ⟨w.heap.size, cells, cap, c', upd_same _ _ _, heap_alloc_new w.drew _, hs, hc, hm, hpre, Rdu_go (Evo.ofExt hext) hsub n ys (Pic.refl0 _ _) hy, .inl r.left.size⟩⟩
    · rw [upd_ne _ _ hj] at h
      refine .inr ⟨h, upd_ne _ _ hj, fun b _ hb => ?_⟩
      exact hext.block b (hl j bj b h hb)
  · by_cases hj : j = g
    · subst hj; rw [upd_same] at h; cases h
    · rw [upd_ne _ _ hj] at h ⊢; exact ⟨h, r.non j h⟩
  · have big : ∀ j, j ≠ g → live (upd H g (.own e n ys) j) = true → upd B g w.heap.size j = some b → b < w.heap.size := by
      intro j hj hlv hb
      rw [upd_ne _ _ hj] at hlv hb
      cases hh : H j with
      | none => rw [hh] at hlv; cases hlv
      | some bj => exact hl j bj b hh hb
    by_cases hj : j = g
    · by_cases hj' : j' = g
      · rw [hj, hj']
      · have := big j' hj' h2 h4
        subst hj
        rw [upd_same] at h3
        injection h3 with h3
        omega
    · by_cases hj' : j' = g
      · have := big j hj h1 h3
        subst hj'
        rw [upd_same] at h4
        injection h4 with h4
        omega
      · rw [upd_ne _ _ hj] at h1 h3
        rw [upd_ne _ _ hj'] at h2 h4
        exact r.inj j j' b h1 h2 h3 h4
/-- what the row is: its block, its cells -/
theorem Rel.ownAt (r : Rel E nt B T H a w) {g n : Nat} {e : TypeId} {xs : List AV} (hg : H g = some (.own e n xs)) : 0 < n ∧ ((B g = none ∧ xs = []) ∨ ∃ b cur cap c, B g = some b ∧ w.heap[b]? = some (.cells cur e (0, 0)) ∧ cur.size = cap * n ∧ xs.length ≤ cap ∧ cap ≤ maxLen ∧ (∀ o, o < xs.length * n → cur[o]? = c[o]?) ∧ Rdu (unst E B H) w n xs B0 H0 c ∧ Mine E b 0 ∧ row? w b 0 (xs.length * n) = some c.toArray) := by
  obtain ⟨hn, _, h⟩ := r.box g _ hg
  refine ⟨hn, h.imp id ?_⟩
  rintro ⟨b, cur, cap, c, k1, k2, k3, k4, k5, k6, k7, k8⟩
  exact ⟨b, cur, cap, c, k1, k2, k3, k4, k5, k6, k7, k8, row_pre k2 k6 (Rdu_len k7) (by rw [k3]; exact Nat.mul_le_mul_right _ k4)⟩
theorem own_v {U : Uns} {g n len : Nat} {k : OwnK} {v : Value} (h : Rdv U w B H (.own g n len k) v) : OwnOk w B H g n len k v := by
  rw [Rdv_not (by simp)] at h
  obtain ⟨c, h1, rfl⟩ := h
  simp only [Rd] at h1
  obtain ⟨v, h2, rfl⟩ := h1
  simpa [pack] using h2
theorem own_i {U : Uns} {g n len : Nat} {k : OwnK} {v : Value} (h : OwnOk w B H g n len k v) : Rdv U w B H (.own g n len k) v := by
  rw [Rdv_not (by simp)]
  exact ⟨[v], by simp only [Rd]; exact ⟨v, h, rfl⟩, rfl⟩
theorem OwnOk.now {g n len : Nat} {k : OwnK} {v : Value} {e : TypeId} {xs : List AV} (h : OwnOk w B H g n len k v) (hg : H g = some (.own e n xs)) (hl : len = xs.length) : (B g = none → v = .slice none 0 0) ∧ ∀ b, B g = some b → ∃ cur, w.heap[b]? = some (.cells cur e (0, 0)) ∧ match (generalizing := false) k with
    | .row => ∃ cap, v = .slice (some ⟨b, 0, none⟩) len cap ∧ len ≤ cap ∧ cap ≤ maxLen ∧ cur.size = cap * n
    | .at off _ => v = .pointer (some ⟨b, off, none⟩)
    | .part off l => ∃ cap, v = .slice (some ⟨b, off * n, none⟩) l cap ∧ off + l ≤ len ∧ l ≤ cap ∧ cap ≤ maxLen := by
  obtain ⟨e', xs', h1, h2, h3, h4⟩ := h
  rw [hg] at h1; injection h1 with h1; injection h1 with q1 q2 q3; subst q1 q3
  exact h4 hl
end
section
variable {P : Program} {E : Env} {nt : Nat} {ops : Array Oper} {T : Nat → Option AV} {H : Hp} {d : Option Nat} {ty : TypeId} {pos : String} {af : Array Edge} {gd : Option (Nat × Bool)} (tb : Tab P)
theorem own_append {B : Blk} {a : Act} {w : World} {t tx ty e : TypeId} {es bytes : Nat} {ea : Bool} {g : Nat} {xs ys : List AV} {sv yv : Value} (r : Rel E nt B T H a w) (hs : tb.ti t = some (.sl e es bytes ea)) (h : OwnOk w B H g es xs.length .row sv) (hg : H g = some (.own e es xs))
    (hsrc : SrcA P E B H w tx es yv ys) (hlen : (xs.length + ys.length) * bytes ≤ 140737488355328) (hlen2 : xs.length + ys.length ≤ 9223372036854775807) :
    ∃ v w' B', (Builtin.append_ #[t, tx] ty #[sv, yv]).run P w = .ok v w' ∧ Rel E nt B' T (upd H g (.own e es (xs ++ ys))) a w' ∧ OwnOk w' B' (upd H g (.own e es (xs ++ ys))) g es (xs.length + ys.length) .row v := by
  obtain ⟨news, hS, hN⟩ := hsrc
  obtain ⟨_, hu, _, i, z, hi, hz, his, hib, hzs⟩ := tb.ok t _ hs
  subst his hib
  have hnl := Rdu_len hN
  obtain ⟨hn1, hn2⟩ := h.now hg rfl
  obtain ⟨hpos, hbox⟩ := r.ownAt hg
  have hone := h
  obtain ⟨A, cap, hsv, hcap⟩ : ∃ A cap, sv = .slice A xs.length cap ∧ xs.length ≤ cap := by
    rcases hbox with ⟨k1, k2⟩ | ⟨b, cur, cp, c, k1, _⟩
    · exact ⟨none, 0, by rw [hn1 k1, k2]; rfl, by rw [k2]; exact Nat.le_refl _⟩
    · obtain ⟨cu, _, cap, q1, q2, _⟩ := hn2 b k1
      exact ⟨_, cap, q1, q2⟩
  by_cases hm : ys.length = 0
  · obtain rfl : ys = [] := List.eq_nil_of_length_eq_zero hm
    obtain rfl : news = [] := List.eq_nil_of_length_eq_zero (by simpa using hnl)
    have hr := run_append_nothing (P := P) w t tx ty e i hu hi A xs.length cap hcap yv hS
    refine ⟨_, w, B, by rw [hsv]; exact hr, ?_, ?_⟩
    · rw [List.append_nil, upd_eta hg]; exact r
    · rw [List.append_nil, upd_eta hg, ← hsv]; exact h
  · have hlt : xs.length < (xs ++ ys).length := by simp; omega
    have hel : (xs ++ ys).length = xs.length + ys.length := by simp
    have h63 : ((xs.length + ys.length : Nat) : Int) ≤ 9223372036854775807 := by omega
    have hcmax : ∀ c, grownCap w (xs.length + ys.length) c e ≤ maxLen := fun c => grownCap_le_maxLen w _ c e (by unfold maxLen; omega)
    have fresh : ∀ (olds : List Value), cap < xs.length + ys.length → Rdu (unst E B H) w i.size xs B0 H0 olds → (Builtin.firstCells i.size xs.length (.slice A xs.length cap)).run P w.drew = .ok olds.toArray w.drew → ∃ v w' B', (Builtin.append_ #[t, tx] ty #[sv, yv]).run P w = .ok v w' ∧ Rel E nt B' T (upd H g (.own e i.size (xs ++ ys))) a w' ∧ OwnOk w' B' (upd H g (.own e i.size (xs ++ ys))) g i.size (xs.length + ys.length) .row v := by
      intro olds hc hO hold
      have hol := Rdu_len hO
      have hr := run_append_grow_src (P := P) w t tx ty e i z hu hi hz A xs.length cap olds hold yv ys.length news hS hc h63 (growslice_fits (by omega) (by exact hlen))
      have hge := grownCap_ge w (xs.length + ys.length) cap e
      have hsz : ((olds ++ news).toArray ++ Builtin.zeroCells z.cells (grownCap w (xs.length + ys.length) cap e - (xs.length + ys.length))).size = grownCap w (xs.length + ys.length) cap e * i.size := by
        simp only [Array.size_append, List.size_toArray, List.length_append, size_zeroCells, hzs, hol, hnl, ← Nat.add_mul]
        congr 1; omega
      have hreg := r.ownNew (ys := xs ++ ys) (c' := olds ++ news) hg hlt hsz (by rw [hel]; exact hge) (hcmax cap) (fun o ho => by
        rw [hel, Nat.add_mul, ← hol, ← hnl, ← List.length_append] at ho
        rw [Array.getElem?_append_left (by simpa using ho)]; simp) (Rdu_append hO hN)
      refine ⟨_, _, _, by rw [hsv]; exact hr, hreg, ⟨e, xs ++ ys, upd_same _ _ _, Nat.le_of_eq hel.symm, rfl, fun _ => ⟨fun h => ?_, fun b hb => ?_⟩⟩⟩
      · rw [upd_same] at h; cases h
      · rw [upd_same] at hb; injection hb with hb; subst hb
        exact ⟨_, heap_alloc_new w.drew _, _, rfl, hge, hcmax cap, hsz⟩
    rcases hbox with ⟨k1, k2⟩ | ⟨b, cur, cp, c, k1, k2, k3, k4, k5, k6, k7, k8, k9⟩
    · subst k2
      have := hn1 k1
      rw [hsv] at this
      injection this with e1 e2 e3
      subst e1 e3
      exact fresh [] (by simp; omega) (by simp [Rdu]) (by simp [Builtin.firstCells])
    · obtain ⟨cu, m1, cap', m2, m3, m4, m5⟩ := hn2 b k1
      rw [k2] at m1; injection m1 with m1; injection m1 with m1 _ _; subst m1
      rw [hsv] at m2
      injection m2 with e1 e2 e3
      subst e1 e3
      have hcl := Rdu_len k7
      by_cases hroom : xs.length + ys.length ≤ cap
      · have hfit : xs.length * i.size + news.length ≤ cur.size := by rw [hnl, m5, ← Nat.add_mul]; exact Nat.mul_le_mul_right _ hroom
        have hr := run_append_put (P := P) (ty := ty) hu hi hS hroom k2 hfit
        have hput := putRow_heap_same (off := xs.length * i.size) (cs := news.toArray) k2
        have hsp : (splice cur (xs.length * i.size) news.toArray).size = cur.size := splice_size _ _ _ (by simpa using hfit)
        have hrm := r.ownPut (ys := xs ++ ys) (c' := c ++ news) hg k1 k2 m5 (by omega) (by rw [hel]; exact hroom) m4 turned_put hput hsp (fun o ho => by
          rw [hel, Nat.add_mul] at ho
          rw [splice_get (by simpa using hfit)]
          by_cases h1 : o < xs.length * i.size
          · rw [if_neg (by omega), k6 o h1, List.getElem?_append_left (by omega)]
          · rw [if_pos (by simp; omega), List.getElem?_append_right (by omega), hcl]; simp) (Rdu_append k7 hN)
        refine ⟨_, _, B, by rw [hsv]; exact hr, hrm.1, ⟨e, xs ++ ys, upd_same _ _ _, Nat.le_of_eq hel.symm, rfl, fun _ => ⟨fun h => ?_, fun b' hb' => ?_⟩⟩⟩
        · rw [k1] at h; cases h
        · rw [k1] at hb'; injection hb' with hb'; subst hb'
          exact ⟨_, hput, cap, rfl, hroom, m4, by rw [hsp]; exact m5⟩
      · refine fresh c (by omega) k7 ?_
        exact run_firstCells_some (P := P) w.drew i.size xs.length ⟨b, 0, none⟩ xs.length cap c (by rw [hcl]) (by simpa using cells_of_row k9)
theorem ok_append_own {s x : Operand} {t tx e : TypeId} {es bytes : Nat} {ea : Bool} {g len len' : Nat} {xs ys : List AV} {src : AV} (hd : dOk nt d = true) (hs : tb.ti t = some (.sl e es bytes ea)) (hx : evalO T s = some (.own g es len .row)) (hg : H g = some (.own e es xs)) (hln : len = xs.length)
    (hy : evalO T x = some src) (hsrc : SrcOf P tx es src ys) (hln' : len' = xs.length + ys.length) (hlen : (xs.length + ys.length) * bytes ≤ 140737488355328) (hlen2 : xs.length + ys.length ≤ 9223372036854775807) :
    OpOK P E nt ops ⟨d, .call { callee := .builtin .append, args := #[s, x], argTypes := #[t, tx] }, ty, pos, af, gd⟩ T H [g] ⟨.own g es len' .row, [(g, .own e es (xs ++ ys))]⟩ :=
  ok_eff hd fun B T' H' a w r ht hh hw => by
    subst hln hln'
    have hg' := (hh g (by simp)).trans hg
    have h := own_v (r.eval ((ht s (by simp [Op.operands, Call.operands])).trans hx))
    obtain ⟨v, w', B', h1, h2, h3⟩ := own_append tb (ty := ty) r hs h hg' (hsrc E B H' w _ (r.eval ((ht x (by simp [Op.operands, Call.operands])).trans hy))) hlen hlen2
    exact ⟨v, w', B', by simp [execOp, resolve, invoke, builtin, h1], h2, own_i h3⟩
/-- a place in the row -/
theorem ok_idx_own {x ix : Operand} {t e : TypeId} {es bytes : Nat} {ea : Bool} {g len : Nat} {xs : List AV} {k : IntKind} {i : Int} (hd : dOk nt d = true) (hs : tb.ti t = some (.sl e es bytes ea)) (hx : evalO T x = some (.own g es len .row)) (hg : H g = some (.own e es xs)) (hln : len = xs.length) (hi : evalO T ix = some (.v (.int k i)))
    (h0 : 0 ≤ i) (hl : i < (len : Int)) : OpOK P E nt ops ⟨d, .indexAddr t x ix, ty, pos, af, gd⟩ T H [g] ⟨.own g es len (.at (i.toNat * es) [i.toNat]), []⟩ :=
  ok_val hd fun B T' H' a w r ht hh => by
    subst hln
    have hg' := (hh g (by simp)).trans hg
    have h := own_v (r.eval ((ht x (by simp [Op.operands])).trans hx))
    have hj := r.evalv ((ht ix (by simp [Op.operands])).trans hi)
    obtain ⟨hn1, hn2⟩ := h.now hg' rfl
    obtain ⟨hpos, hbox⟩ := r.ownAt hg'
    rcases hbox with ⟨k1, k2⟩ | ⟨b, cur, cp, c, k1, k2, _⟩
    · subst k2; simp at hl; omega
    · obtain ⟨cu, m1, cap, m2, _⟩ := hn2 b k1
      obtain ⟨_, hu, he, _⟩ := tb.ok t _ hs
      have hz := run_sizeOf_of he w
      refine ⟨.pointer (some ⟨b, i.toNat * es, none⟩), ?_, own_i ⟨e, xs, hg', Nat.le_refl _, rfl, fun _ => ⟨fun h => (by rw [k1] at h; cases h), fun b' hb' => ?_⟩⟩⟩
      · simp [execOp, m2, hj, Instr.indexAt, run_underlying hu, asIntOf, hz, h0, hl, add_lit]
      · rw [k1] at hb'; injection hb' with hb'; subst hb'
        exact ⟨cu, m1, rfl⟩
theorem ok_fld_own {x : Operand} {s e : TypeId} {f n o sz : Nat} {ag : Bool} {fs : List (Nat × Nat × Bool)} {g m len off : Nat} {p : List Nat} {xs : List AV} (hd : dOk nt d = true) (hx : evalO T x = some (.own g m len (.at off p))) (hg : H g = some (.own e m xs)) (hln : len = xs.length) (h0 : 0 < xs.length) (hs : tb.ti s = some (.st n fs)) (hf : fs[f]? = some (o, sz + 1, ag)) :
    OpOK P E nt ops ⟨d, .fieldAddr s x f, ty, pos, af, gd⟩ T H [g] ⟨.own g m len (.at (off + o) (p ++ [f])), []⟩ :=
  ok_val hd fun B T' H' a w r ht hh => by
    subst hln
    have hg' := (hh g (by simp)).trans hg
    have h := own_v (r.eval ((ht x (by simp [Op.operands])).trans hx))
    obtain ⟨hn1, hn2⟩ := h.now hg' rfl
    obtain ⟨hpos, hbox⟩ := r.ownAt hg'
    rcases hbox with ⟨k1, k2⟩ | ⟨b, cur, cp, c, k1, k2, _⟩
    · subst k2; simp at h0
    · obtain ⟨cu, m1, m2⟩ := hn2 b k1
      simp only at m2
      obtain ⟨_, F, hu, hF⟩ := tb.ok s _ hs
      obtain ⟨fd, hfd, hfo, hft⟩ := fields_at hF f o (sz + 1) ag hf
      have hz := run_sizeOf_of hft w
      refine ⟨.pointer (some ⟨b, off + o, none⟩), ?_, own_i ⟨e, xs, hg', Nat.le_refl _, rfl, fun _ => ⟨fun h => (by rw [k1] at h; cases h), fun b' hb' => ?_⟩⟩⟩
      · simp [execOp, m2, Instr.fieldAt, run_underlying hu, hfd, Instr.sureAddr, fieldPlace, hz, hfo, add_lit]
      · rw [k1] at hb'; injection hb' with hb'; subst hb'
        exact ⟨cu, m1, rfl⟩
theorem ok_load_own {x : Operand} {t e : TypeId} {g n len off : Nat} {p : List Nat} {xs : List AV} {z : AV} (hd : dOk nt d = true) (hx : evalO T x = some (.own g n len (.at off p))) (hg : H g = some (.own e n xs)) (hln : len = xs.length) (h0 : 0 < xs.length) (hp : subA p (.arr (xs.length * n) n xs) = some z) (ho : offA p (.arr (xs.length * n) n xs) = off) (hs : tb.sa t = some (isAggA z, sizeA z)) :
    OpOK P E nt ops ⟨d, .load t x, ty, pos, af, gd⟩ T H [g] ⟨z, []⟩ :=
  ok_val hd fun B T' H' a w r ht hh => by
    subst hln
    have hg' := (hh g (by simp)).trans hg
    have h := own_v (r.eval ((ht x (by simp [Op.operands])).trans hx))
    obtain ⟨hn1, hn2⟩ := h.now hg' rfl
    obtain ⟨hpos, hbox⟩ := r.ownAt hg'
    rcases hbox with ⟨k1, k2⟩ | ⟨b, cur, cp, c, k1, k2, k3, k4, k5, k6, k7, k8, k9⟩
    · subst k2; simp at h0
    · obtain ⟨cu, m1, m2⟩ := hn2 b k1
      simp only at m2
      have hR : Rd (unst E B H') w (.arr (xs.length * n) n xs) B H' c := by simp only [Rd]; exact ⟨Rdu_len k7, k7⟩
      obtain ⟨c1, c2, c3, rfl, q1, q2, _⟩ := Rd_sub p hR hp
      rw [← Rdu_len k7] at k9
      have hrow := row_mid k9
      rw [Nat.zero_add, q1, ho] at hrow
      have hr := run_loadVar_of (tb.tyOf hs) (by rw [← Rd_len q2]; exact hrow) size1
      rw [pack_if q2] at hr
      refine ⟨pack z c2, ?_, by rw [Rdv_not (Rd_notup q2)]; exact ⟨c2, q2, rfl⟩⟩
      simp [execOp, m2, Instr.loadAt, Instr.sureAddr, hr]
theorem ok_store_own {x y : Operand} {t e : TypeId} {g n len off : Nat} {p : List Nat} {v old : AV} {xs ys : List AV} (hd : dOk nt d = true) (hx : evalO T x = some (.own g n len (.at off p))) (hy : evalO T y = some v) (hg : H g = some (.own e n xs)) (hln : len = xs.length) (h0 : 0 < xs.length) (hp : subA p (.arr (xs.length * n) n xs) = some old) (ho : offA p (.arr (xs.length * n) n xs) = off)
    (hv : setA v p (.arr (xs.length * n) n xs) = some (.arr (xs.length * n) n ys)) (hs : tb.sa t = some (isAggA v, sizeA v)) (hs' : sizeA v = sizeA old) (hnt : notTup v = true) : OpOK P E nt ops ⟨none, .store t x y, ty, pos, af, gd⟩ T H [g] ⟨.tup [], [(g, .own e n ys)]⟩ := by
  intro T' H' ht hh hw B a w r K Q hK
  subst hln
  have hg' := (hh g (by simp)).trans hg
  have h := own_v (r.eval ((agree_op ht (by simp [Op.operands])).trans hx))
  have hv2 := r.eval ((agree_op ht (x := y) (by simp [Op.operands])).trans hy)
  rw [Rdv_not (notTup_ne hnt)] at hv2
  obtain ⟨c', hc1, hc2⟩ := hv2
  obtain ⟨hn1, hn2⟩ := h.now hg' rfl
  obtain ⟨hpos, hbox⟩ := r.ownAt hg'
  rcases hbox with ⟨k1, k2⟩ | ⟨b, cur, cp, c, k1, k2, k3, k4, k5, k6, k7, k8, k9⟩
  · subst k2; simp at h0
  · obtain ⟨cu, m1, m2⟩ := hn2 b k1
    simp only at m2
    have hR : Rd (unst E B H') w (.arr (xs.length * n) n xs) B H' c := by simp only [Rd]; exact ⟨Rdu_len k7, k7⟩
    have hcl := Rdu_len k7
    obtain ⟨c1, c2, c3, rfl, q1, q2, q3⟩ := Rd_sub p hR hp
    have hl : c'.length = c2.length := by rw [Rd_len hc1, Rd_len q2, hs']
    have hle : xs.length * n ≤ cur.size := by rw [k3]; exact Nat.mul_le_mul_right _ k4
    have hfit : off + c'.length ≤ cur.size := by simp at hcl; omega
    have hst := run_storeVar_of (tb.tyOf hs) (off := off) (v := a.eval y) (c := c') (by rw [hc2]; exact pack_cells hc1) k2 (Rd_len hc1) (by rw [← Rd_len hc1]; exact hfit) (Rd_one v hc1)
    have hy2 := q3 v _ c' hv hc1 hl
    simp only [Rd] at hy2
    have hyl : ys.length = xs.length := by
      have h1 := Rdu_len hy2.2
      have h2 : (c1 ++ c' ++ c3).length = (c1 ++ c2 ++ c3).length := by simp [hl]
      rw [h2, hcl] at h1
      exact (Nat.eq_of_mul_eq_mul_right hpos h1).symm
    have hput := putRow_heap_same (off := off) (cs := c'.toArray) k2
    have hsp : (splice cur off c'.toArray).size = cur.size := splice_size _ _ _ (by simpa using hfit)
    have hrm := r.ownPut (ys := ys) (c' := c1 ++ c' ++ c3) hg' k1 k2 k3 (by omega) (by omega) k5 turned_put hput hsp (fun o ho' => by
      rw [hyl] at ho'
      rw [splice_get (by simpa using hfit)]
      have hk := k6 o ho'
      by_cases h1 : off ≤ o ∧ o < off + c'.toArray.size
      · rw [if_pos h1]
        obtain ⟨h1, h2⟩ := h1
        rw [List.getElem?_append_left (by simp at h2 ⊢; omega), List.getElem?_append_right (by omega)]
        simp [q1, ho]
      · rw [if_neg h1, hk]
        have h2 : o < off ∨ off + c'.length ≤ o := by simp at h1; omega
        rcases h2 with h2 | h2
        · rw [List.append_assoc, List.append_assoc, List.getElem?_append_left (by omega), List.getElem?_append_left (by omega)]
        · rw [List.getElem?_append_right (by simp; omega), List.getElem?_append_right (by simp; omega)]
          simp [hl]) hy2.2
    unfold Oper.wp
    have he : (execOp a.eval ⟨none, .store t x y, ty, pos, af, gd⟩).run P w = .ok .skip (putRow w b off c'.toArray) := by
      simp [execOp, m2, Instr.storeAt, Instr.sureAddr, hst]
    rw [he]
    exact hK B _ _ hrm.1
end
/-! ### the row stays from here on: a list again -/
mutual
/-- y is x, where the own row g is let be -/
def Thw (g n : Nat) (xs : List AV) : AV → AV → Prop
  | .own g' n' len k, y => match Nat.beq g' g with
    | true => n' = n ∧ len = xs.length ∧ k = .row ∧ y = .sl (some g) n xs
    | false => y = .own g' n' len k
  | .agg m fs, y => match y with
    | .agg m' us => m' = m ∧ ThwL g n xs fs us
    | _ => False
  | x, y => (namesA x).all (fun j => !Nat.beq j g) = true ∧ y = x
def ThwL (g n : Nat) (xs : List AV) : List AV → List AV → Prop
  | [], us => us = []
  | x :: l, us => match us with
    | u :: us => Thw g n xs x u ∧ ThwL g n xs l us
    | [] => False
end
def ThwT (g n : Nat) (xs : List AV) (T : List (Nat × AV)) : List (Nat × AV) → Prop
  | [] => True
  | (s, y) :: l => (match look s T with | some x => Thw g n xs x y | none => False) ∧ ThwT g n xs T l
def ThwB (g n : Nat) (xs : List AV) : Bx → Bx → Prop
  | .var x, b => match b with
    | .var y => Thw g n xs x y
    | _ => False
  | .froz x, b => match b with
    | .froz y => Thw g n xs x y
    | _ => False
  | b0, b => b = b0
def ThwH (g n : Nat) (e : TypeId) (xs : List AV) (H : List (Nat × Bx)) : List (Nat × Bx) → Prop
  | [] => True
  | (j, b) :: l => (match Nat.beq j g with
    | true => b = .tail e n xs.length
    | false => match look j H with | some b0 => ThwB g n xs b0 b | none => False) ∧ ThwH g n e xs H l
theorem ThwT.at {g n : Nat} {xs : List AV} {T : List (Nat × AV)} : ∀ {l : List (Nat × AV)}, ThwT g n xs T l → ∀ p ∈ l, ∃ x, look p.1 T = some x ∧ Thw g n xs x p.2
  | [], _, p, h => by cases h
  | (s, y) :: l, ⟨h1, h2⟩, p, h => by
    rcases List.mem_cons.1 h with rfl | h
    · cases hs : look s T with
      | none => rw [hs] at h1; exact h1.elim
      | some x => rw [hs] at h1; exact ⟨x, rfl, h1⟩
    · exact h2.at p h
theorem ThwH.at {g n : Nat} {e : TypeId} {xs : List AV} {H : List (Nat × Bx)} : ∀ {l : List (Nat × Bx)}, ThwH g n e xs H l → ∀ p ∈ l, (p.1 = g ∧ p.2 = .tail e n xs.length) ∨ (p.1 ≠ g ∧ ∃ b0, look p.1 H = some b0 ∧ ThwB g n xs b0 p.2)
  | [], _, p, h => by cases h
  | (j, b) :: l, ⟨h1, h2⟩, p, h => by
    rcases List.mem_cons.1 h with rfl | h
    · cases hj : Nat.beq j g
      · rw [hj] at h1
        have hne : j ≠ g := fun e => by subst e; simp at hj
        cases hs : look j H with
        | none => rw [hs] at h1; exact h1.elim
        | some b0 => rw [hs] at h1; exact .inr ⟨hne, b0, rfl, h1⟩
      · rw [hj] at h1
        exact .inl ⟨Nat.eq_of_beq_eq_true hj, h1⟩
    · exact h2.at p h
section
variable {E : Env} {nt : Nat} {B : Blk} {T : Nat → Option AV} {H : Hp} {a : Act} {w : World} {g n : Nat} {e : TypeId} {xs : List AV}
theorem names_ne {l : List Nat} (h : l.all (fun j => !Nat.beq j g) = true) : ∀ j ∈ l, j ≠ g := fun j hj e => by
  have := List.all_eq_true.1 h j hj
  subst e
  simp at this
theorem thw_unst (hg : H g = some (.own e n xs)) {b o : Nat} (h : unst E B (upd H g (.tail e n xs.length)) b o) : unst E B H b o := by
  rcases h with h | ⟨j, h1, h2⟩
  · exact .inl h
  · refine .inr ⟨j, h1, ?_⟩
    by_cases hj : j = g
    · subst hj; rw [hg]; trivial
    · rwa [upd_ne _ _ hj] at h2
theorem thw_same (hg : H g = some (.own e n xs)) {x : AV} (hx : (namesA x).all (fun j => !Nat.beq j g) = true) {c : List Value} (h : Rd (unst E B H) w x B H c) : Rd (unst E B (upd H g (.tail e n xs.length))) w x B (upd H g (.tail e n xs.length)) c :=
  Rd_names x (fun j hj => ⟨upd_ne _ _ (names_ne hx j hj), rfl⟩) (Rd_go (Evo.refl _ w) (fun b o _ h => thw_unst hg h) x ⟨fun _ _ _ h => h, fun _ h => h, fun _ _ _ _ _ h => h, fun _ _ _ _ _ h => h⟩ h)
theorem thw_own (r : Rel E nt B T H a w) (hg : H g = some (.own e n xs)) {v : Value} (h : OwnOk w B H g n xs.length .row v) : Rd (unst E B (upd H g (.tail e n xs.length))) w (.sl (some g) n xs) B (upd H g (.tail e n xs.length)) [v] := by
  obtain ⟨hn1, hn2⟩ := h.now hg rfl
  obtain ⟨hpos, hbox⟩ := r.ownAt hg
  simp only [Rd]
  rcases hbox with ⟨k1, k2⟩ | ⟨b, cur, cp, c, k1, k2, k3, k4, k5, k6, k7, k8, k9⟩
  · subst k2
    rw [hn1 k1]
    refine ⟨none, 0, rfl, Nat.le_refl _, Nat.zero_le _, fun h => absurd h (by simp), fun t ht => ?_⟩
    injection ht with ht; subst ht
    exact ⟨e, 0, upd_same _ _ _, Nat.le_refl _, fun _ => ⟨fun _ => ⟨rfl, rfl⟩, fun b hb => by rw [k1] at hb; cases hb⟩⟩
  · obtain ⟨cu, m1, cap, m2, m3, m4, m5⟩ := hn2 b k1
    rw [k2] at m1; injection m1 with m1; injection m1 with m1 _ _; subst m1
    rw [m2]
    refine ⟨_, cap, rfl, m3, m4, fun _ => ⟨b, 0, c, rfl, k9, fun o _ ho hun => ?_, Rdu_go (Evo.refl _ w) (fun b o _ h => thw_unst hg h) n xs (Pic.refl0 _ _) k7⟩, fun t ht => ?_⟩
    · rcases hun with ⟨q1, _, q3⟩ | ⟨j, q1, q2⟩
      · rcases k8 with k8 | k8
        · omega
        · exact q3 k8.2.1
      · by_cases hj : j = g
        · subst hj
          rw [upd_same] at q2
          have q2' : xs.length * n ≤ o := q2
          omega
        · rw [upd_ne _ _ hj] at q2
          cases hh : H j with
          | none => rw [hh] at q2; exact q2
          | some bj =>
            rw [hh] at q2
            refine hj (r.inj j g b ?_ (by rw [hg]; rfl) q1 k1)
            rw [hh]
            cases bj <;> first | rfl | exact q2.elim
    · injection ht with ht; subst ht
      refine ⟨e, xs.length, upd_same _ _ _, Nat.le_refl _, fun _ => ⟨fun hn => (by rw [k1] at hn; cases hn), fun b' hb' => ?_⟩⟩
      rw [k1] at hb'; injection hb' with hb'; subst hb'
      exact ⟨rfl, cur, k2, m5⟩
mutual
theorem thw_rd (r : Rel E nt B T H a w) (hg : H g = some (.own e n xs)) : ∀ (x y : AV), Thw g n xs x y → ∀ {c : List Value}, Rd (unst E B H) w x B H c → Rd (unst E B (upd H g (.tail e n xs.length))) w y B (upd H g (.tail e n xs.length)) c
  | .own g' n' len k, y, ht, c, h => by
    simp only [Thw] at ht
    cases hj : Nat.beq g' g
    · rw [hj] at ht
      simp only at ht
      subst ht
      refine thw_same hg ?_ h
      simp [namesA, hj]
    · rw [hj] at ht
      simp only at ht
      obtain ⟨rfl, rfl, rfl, rfl⟩ := ht
      have := Nat.eq_of_beq_eq_true hj
      subst this
      simp only [Rd] at h
      obtain ⟨v, h1, rfl⟩ := h
      exact thw_own r hg h1
  | .agg m fs, y, ht, c, h => by
    simp only [Thw] at ht
    cases y with
    | agg m' us =>
      simp only at ht
      obtain ⟨rfl, ht⟩ := ht
      simp only [Rd] at h ⊢
      exact ⟨h.1, thw_rds r hg fs us ht h.2⟩
    | _ => exact ht.elim
  | .v x, y, ht, c, h => by simp only [Thw] at ht; obtain ⟨h1, rfl⟩ := ht; exact thw_same hg h1 h
  | .arr m k zs, y, ht, c, h => by simp only [Thw] at ht; obtain ⟨h1, rfl⟩ := ht; exact thw_same hg h1 h
  | .ptr j off p, y, ht, c, h => by simp only [Thw] at ht; obtain ⟨h1, rfl⟩ := ht; exact thw_same hg h1 h
  | .ref x, y, ht, c, h => by simp only [Thw] at ht; obtain ⟨h1, rfl⟩ := ht; exact thw_same hg h1 h
  | .sl t k zs, y, ht, c, h => by simp only [Thw] at ht; obtain ⟨h1, rfl⟩ := ht; exact thw_same hg h1 h
  | .seg j off k p l cp, y, ht, c, h => by simp only [Thw] at ht; obtain ⟨h1, rfl⟩ := ht; exact thw_same hg h1 h
  | .tup vs, y, ht, c, h => by simp [Rd] at h
  | .fn f x y', y, ht, c, h => by simp only [Thw] at ht; obtain ⟨h1, rfl⟩ := ht; exact thw_same hg h1 h
  | .ifc t x, y, ht, c, h => by simp only [Thw] at ht; obtain ⟨h1, rfl⟩ := ht; exact thw_same hg h1 h
theorem thw_rds (r : Rel E nt B T H a w) (hg : H g = some (.own e n xs)) : ∀ (l us : List AV), ThwL g n xs l us → ∀ {c : List Value}, Rds (unst E B H) w l B H c → Rds (unst E B (upd H g (.tail e n xs.length))) w us B (upd H g (.tail e n xs.length)) c
  | [], us, ht, c, h => by
    simp only [ThwL] at ht
    subst ht
    simpa [Rds] using h
  | x :: l, us, ht, c, h => by
    simp only [ThwL] at ht
    cases us with
    | nil => exact ht.elim
    | cons u us =>
      simp only at ht
      simp only [Rds] at h ⊢
      obtain ⟨c1, c2, h1, h2, h3⟩ := h
      exact ⟨c1, c2, h1, thw_rd r hg x u ht.1 h2, thw_rds r hg l us ht.2 h3⟩
end
theorem thw_pack : ∀ (x y : AV), Thw g n xs x y → (∀ us, x ≠ .tup us) → (∀ us, y ≠ .tup us) ∧ ∀ (c : List Value), pack x c = pack y c
  | .own g' n' len k, y, ht, _ => by
    simp only [Thw] at ht
    cases hj : Nat.beq g' g
    · rw [hj] at ht
      simp only at ht
      subst ht
      simp
    · rw [hj] at ht
      simp only at ht
      obtain ⟨rfl, rfl, rfl, rfl⟩ := ht
      refine ⟨by simp, fun c => ?_⟩
      match c with
      | [] => rfl
      | [_] => rfl
      | _ :: _ :: _ => rfl
  | .agg m fs, y, ht, _ => by
    simp only [Thw] at ht
    cases y with
    | agg m' us => exact ⟨by simp, fun c => rfl⟩
    | _ => exact ht.elim
  | .v x, y, ht, hn => by simp only [Thw] at ht; obtain ⟨h1, rfl⟩ := ht; exact ⟨hn, fun _ => rfl⟩
  | .arr m k zs, y, ht, hn => by simp only [Thw] at ht; obtain ⟨h1, rfl⟩ := ht; exact ⟨hn, fun _ => rfl⟩
  | .ptr j off p, y, ht, hn => by simp only [Thw] at ht; obtain ⟨h1, rfl⟩ := ht; exact ⟨hn, fun _ => rfl⟩
  | .ref x, y, ht, hn => by simp only [Thw] at ht; obtain ⟨h1, rfl⟩ := ht; exact ⟨hn, fun _ => rfl⟩
  | .sl t k zs, y, ht, hn => by simp only [Thw] at ht; obtain ⟨h1, rfl⟩ := ht; exact ⟨hn, fun _ => rfl⟩
  | .seg j off k p l cp, y, ht, hn => by simp only [Thw] at ht; obtain ⟨h1, rfl⟩ := ht; exact ⟨hn, fun _ => rfl⟩
  | .tup vs, y, ht, hn => absurd rfl (hn vs)
  | .fn f x y', y, ht, hn => by simp only [Thw] at ht; obtain ⟨h1, rfl⟩ := ht; exact ⟨hn, fun _ => rfl⟩
  | .ifc t x, y, ht, hn => by simp only [Thw] at ht; obtain ⟨h1, rfl⟩ := ht; exact ⟨hn, fun _ => rfl⟩
theorem thw_rdv (r : Rel E nt B T H a w) (hg : H g = some (.own e n xs)) {x y : AV} (ht : Thw g n xs x y) {v : Value} (h : Rdv (unst E B H) w B H x v) : Rdv (unst E B (upd H g (.tail e n xs.length))) w B (upd H g (.tail e n xs.length)) y v := by
  rcases isTup x with ⟨us, rfl⟩ | hx
  · simp only [Thw] at ht
    obtain ⟨h1, rfl⟩ := ht
    exact Rdv_names (fun j hj => ⟨upd_ne _ _ (names_ne h1 j hj), rfl⟩) (Rdv_go (Evo.refl _ w) (fun b o _ h => thw_unst hg h) ⟨fun _ _ _ h => h, fun _ h => h, fun _ _ _ _ _ h => h, fun _ _ _ _ _ h => h⟩ h)
  · obtain ⟨k1, k2⟩ := thw_pack x y ht hx
    rw [Rdv_not hx] at h
    rw [Rdv_not k1]
    obtain ⟨c, h1, h2⟩ := h
    exact ⟨c, thw_rd r hg x y ht h1, by rw [h2, k2 c]⟩
end
/-- an own row is let be: a list, which may be appended to -/
theorem Go2.thaw {E : Env} {nt : Nat} {S S' : St} (g : Nat) {n : Nat} {e : TypeId} {xs : List AV} (hg : look g S.H = some (.own e n xs)) (hT : ThwT g n xs S.T S'.T) (hH : ThwH g n e xs S.H S'.H) (hall : S.H.all (fun p => (look p.1 S'.H).isSome) = true) : Go2 E nt S S' := fun B a w r => by
  have hg' : S.h g = some (.own e n xs) := hg
  replace hT := hT.at
  replace hH := hH.at
  have back : ∀ j, S'.h j = none → S.h j = none := fun j hj => by
    cases hh : S.h j with
    | none => rfl
    | some b =>
      have := List.all_eq_true.1 hall _ (look_mem hh)
      rw [show look j S'.H = none from hj] at this
      cases this
  have eH : ∀ j b, S'.h j = some b → j ≠ g → ∃ b0, S.h j = some b0 ∧ ThwB g n xs b0 b := fun j b hj hne => by
    rcases hH (j, b) (look_mem hj) with ⟨h1, _⟩ | ⟨_, b0, h1, h2⟩
    · exact absurd h1 hne
    · exact ⟨b0, h1, h2⟩
  have eg : ∀ b, S'.h g = some b → b = .tail e n xs.length := fun b hb => by
    rcases hH (g, b) (look_mem hb) with ⟨_, h2⟩ | ⟨h1, _⟩
    · exact h2
    · exact absurd rfl h1
  obtain ⟨bg, hbg⟩ : ∃ b, S'.h g = some b := by
    cases hh : S'.h g with
    | none => rw [back g hh] at hg'; cases hg'
    | some b => exact ⟨b, rfl⟩
  have hbg' := eg bg hbg
  subst hbg'
  -- the shapes are as they were
  have kind : ∀ b0 b, ThwB g n xs b0 b → isVar (some b) = isVar (some b0) ∧ live (some b) = live (some b0) ∧ (∀ e' n' k, b = .tail e' n' k ↔ b0 = .tail e' n' k) ∧ ∀ e' n' ys, b = .own e' n' ys ↔ b0 = .own e' n' ys := by
    intro b0 b h
    cases b0 with
    | var x => cases b <;> simp [ThwB] at h <;> simp [isVar, live]
    | froz x => cases b <;> simp [ThwB] at h <;> simp [isVar, live]
    | tail e' n' k => simp only [ThwB] at h; subst h; simp
    | own e' n' ys => simp only [ThwB] at h; subst h; simp
  have hu : ∀ b o, unst E B S'.h b o ↔ unst E B (upd S.h g (.tail e n xs.length)) b o := by
    intro b o
    unfold unst
    refine or_congr Iff.rfl (exists_congr fun j => and_congr_right fun hb => ?_)
    by_cases hj : j = g
    · subst hj; rw [upd_same, hbg]
    · rw [upd_ne _ _ hj]
      cases hh : S'.h j with
      | none => rw [back j hh]
      | some b' =>
        obtain ⟨b0, h1, h2⟩ := eH j b' hh hj
        rw [h1]
        cases b0 with
        | var x => cases b' <;> simp [ThwB] at h2 <;> rfl
        | froz x => cases b' <;> simp [ThwB] at h2 <;> rfl
        | tail e' n' k => simp only [ThwB] at h2; subst h2; rfl
        | own e' n' ys => simp only [ThwB] at h2; subst h2; rfl
  have ue : unst E B (upd S.h g (.tail e n xs.length)) = unst E B S'.h := by
    funext b o; exact propext (hu b o).symm
  have pic : Pic w w B B (upd S.h g (.tail e n xs.length)) S'.h := by
    have at_ : ∀ j b0, upd S.h g (.tail e n xs.length) j = some b0 → ∃ b, S'.h j = some b ∧ isVar (some b) = isVar (some b0) ∧ (∀ e' n' k, b = .tail e' n' k ↔ b0 = .tail e' n' k) ∧ ∀ e' n' ys, b = .own e' n' ys ↔ b0 = .own e' n' ys := by
      intro j b0 h
      by_cases hj : j = g
      · subst hj
        rw [upd_same] at h; injection h with h; subst h
        exact ⟨_, hbg, rfl, fun _ _ _ => Iff.rfl, fun _ _ _ => Iff.rfl⟩
      · rw [upd_ne _ _ hj] at h
        cases hh : S'.h j with
        | none => rw [back j hh] at h; cases h
        | some b =>
          obtain ⟨b1, h1, h2⟩ := eH j b hh hj
          rw [h] at h1; injection h1 with h1; subst h1
          obtain ⟨q1, _, q3, q4⟩ := kind b0 b h2
          exact ⟨b, rfl, q1, q3, q4⟩
    refine ⟨fun _ _ _ h => h, fun j h => ?_, fun t n' len A cap h => ?_, fun j n' len k v h => ?_⟩
    · cases hh : upd S.h g (.tail e n xs.length) j with
      | none => rw [hh] at h; cases h
      | some b0 =>
        obtain ⟨b, h1, h2, _⟩ := at_ j b0 hh
        rw [h1, h2, ← hh]; exact h
    · obtain ⟨e', k, h1, h2, h3⟩ := h
      obtain ⟨b, k1, _, k3, _⟩ := at_ t _ h1
      rw [(k3 e' n' k).2 rfl] at k1
      exact ⟨e', k, k1, h2, h3⟩
    · obtain ⟨e', ys, h1, h2, h3, h4⟩ := h
      obtain ⟨b, k1, _, _, k4⟩ := at_ j _ h1
      rw [(k4 e' n' ys).2 rfl] at k1
      exact ⟨e', ys, k1, h2, h3, h4⟩
  have sub : ∀ b o, b < w.heap.size → unst E B S'.h b o → unst E B (upd S.h g (.tail e n xs.length)) b o := fun b o _ h => (hu b o).1 h
  refine ⟨B, r.nt, r.df, fun s y hy => ?_, fun j b hj => ?_, fun j hj => r.non j (back j hj), fun j j' b h1 h2 h3 h4 => ?_, r.left, fun j hj => r.keep j (back j hj)⟩
  · obtain ⟨x, h1, h2⟩ := hT (s, y) (look_mem hy)
    obtain ⟨v, h3, h4⟩ := r.tmp s x h1
    exact ⟨v, h3, Rdv_go (Evo.refl _ w) sub pic (thw_rdv r hg' h2 h4)⟩
  · by_cases hjg : j = g
    · subst hjg
      rw [hbg] at hj; injection hj with hj; subst hj
      obtain ⟨hn, hT0, hbox⟩ := r.box j _ hg'
      refine ⟨hn, hT0, ?_⟩
      rcases hbox with ⟨k1, k2⟩ | ⟨b, cur, cap, c, k1, k2, k3, k4, k5, k6, k7, k8⟩
      · exact .inl ⟨k1, by rw [k2]; rfl⟩
      · exact .inr ⟨b, cur, cap, k1, k2, k3, k4, k5, k8.mono (Nat.zero_le _)⟩
    · obtain ⟨b0, h1, h2⟩ := eH j b hj hjg
      have hb := r.box j b0 h1
      cases b0 with
      | var x =>
        cases b <;> simp only [ThwB] at h2
        rename_i y
        obtain ⟨bb, cs, t, k1, k2, k3, k4⟩ := hb
        exact ⟨bb, cs, t, k1, k2, Rd_go (Evo.refl _ w) sub y pic (thw_rd r hg' x y h2 k3), k4⟩
      | froz x =>
        cases b <;> simp only [ThwB] at h2
        rename_i y
        obtain ⟨bb, cs, k1, k2, k3, k4⟩ := hb
        exact ⟨bb, cs, k1, k2, fun o q1 q2 q3 => k3 o q1 q2 (thw_unst hg' ((hu _ _).1 q3)), Rd_go (Evo.refl _ w) sub y pic (thw_rd r hg' x y h2 k4)⟩
      | tail e' n' k => simp only [ThwB] at h2; subst h2; exact hb
      | own e' n' ys =>
        simp only [ThwB] at h2; subst h2
        obtain ⟨k0, kT, k1⟩ := hb
        refine ⟨k0, kT, k1.imp id ?_⟩
        rintro ⟨bb, cur, cap, c, m1, m2, m3, m4, m5, m6, m7, m8⟩
        exact ⟨bb, cur, cap, c, m1, m2, m3, m4, m5, m6, Rdu_go (Evo.refl _ w) (fun b o _ h => thw_unst hg' ((hu b o).1 h)) n' ys (Pic.refl0 _ _) m7, m8⟩
  · have lv : ∀ j, live (S'.h j) = true → live (S.h j) = true := fun j hj => by
      by_cases hjg : j = g
      · subst hjg; rw [hg']; rfl
      · cases hh : S'.h j with
        | none => rw [hh] at hj; cases hj
        | some b =>
          obtain ⟨b0, k1, k2⟩ := eH j b hh hjg
          rw [k1, ← (kind b0 b k2).2.1, ← hh]; exact hj
    exact r.inj j j' b (lv j h1) (lv j' h2) h3 h4
section
variable {E : Env} {nt : Nat} {ops : Array Oper} {T : Nat → Option AV} {H : Hp} {d : Option Nat} {ty : TypeId} {pos : String} {af : Array Edge} {gd : Option (Nat × Bool)}
/-- an own row of none -/
theorem o_bsl0O {t e : TypeId} {es bytes : Nat} {ea : Bool} {g : Nat} (hd : dOk nt (some g) = true) (hs : tabT.ti t = some (.sl e (es + 1) bytes ea)) (hg : H g = none) :
    OpOK Try.prog E nt ops ⟨some g, .buildSlice t 0 #[], ty, pos, af, gd⟩ T H [] ⟨.own g (es + 1) 0 .row, [(g, .own e (es + 1) [])]⟩ :=
  ok_eff hd fun B T' H' a w r ht hh hw' => by
    have hg' : H' g = none := (hw' (g, .own e (es + 1) []) (by simp)).trans hg
    obtain ⟨_, hu, hte, i, zv, z1, z2, z3, z4, z5⟩ := tabT.ok t _ hs
    have hrun := run_buildSlice0 w t e i hu z1
    have hfin : (execOp a.eval ⟨some g, .buildSlice t 0 #[], ty, pos, af, gd⟩).run Try.prog w = .ok (.value (.slice (some ⟨w.heap.size, 0, none⟩) 0 0)) (w.alloc (.cells #[] e)) := by simp [execOp, hrun]
    have hm : 0 ≤ maxLen := Nat.zero_le _
    refine ⟨_, _, _, hfin, r.new hg' ⟨Nat.succ_pos es, Tie.none (r.keep _ hg'), .inr ⟨w.heap.size, #[], 0, [], upd_same _ _ _, heap_alloc_new w _, by simp, Nat.le_refl _, hm, fun o ho => by simp at ho, by simp [Rdu], .inl r.left.size⟩⟩, own_i ⟨e, [], upd_same _ _ _, Nat.le_refl _, rfl, fun _ => ⟨fun h => ?_, fun b hb => ?_⟩⟩⟩
    · rw [upd_same] at h; cases h
    · rw [upd_same] at hb; injection hb with hb; subst hb
      exact ⟨#[], heap_alloc_new w _, 0, rfl, Nat.le_refl _, hm, by simp⟩
/-- appended to an own row of none -/
theorem oo_app0 {α : Type} {f : α → AV} {s x : Operand} {t tx e : TypeId} {es bytes : Nat} {ea : Bool} {g : Nat} {zs : List α} {src : AV} (hd : dOk nt d = true) (hs : tabT.ti t = some (.sl e es bytes ea)) (hx : evalO T s = some (.own g es 0 .row)) (hg : H g = some (.own e es []))
    (hy : evalO T x = some src) (hsrc : SrcOf Try.prog tx es src (zs.map f)) (hlen : zs.length * bytes ≤ 140737488355328) (hlen2 : zs.length ≤ 9223372036854775807) :
    OpOK Try.prog E nt ops ⟨d, .call { callee := .builtin .append, args := #[s, x], argTypes := #[t, tx] }, ty, pos, af, gd⟩ T H [g] ⟨.own g es zs.length .row, [(g, .own e es (zs.map f))]⟩ := by
  have := ok_append_own tabT (E := E) (ops := ops) (H := H) (ty := ty) (pos := pos) (af := af) (gd := gd) (len' := zs.length) hd hs hx hg rfl hy hsrc (by simp) (by simpa using hlen) (by simpa using hlen2)
  rwa [List.nil_append] at this
theorem oo_app {α : Type} {f : α → AV} {s x : Operand} {t tx e : TypeId} {es bytes : Nat} {ea : Bool} {g : Nat} {xs zs : List α} {src : AV} (hd : dOk nt d = true) (hs : tabT.ti t = some (.sl e es bytes ea)) (hx : evalO T s = some (.own g es xs.length .row)) (hg : H g = some (.own e es (xs.map f)))
    (hy : evalO T x = some src) (hsrc : SrcOf Try.prog tx es src (zs.map f)) (hlen : (xs.length + zs.length) * bytes ≤ 140737488355328) (hlen2 : xs.length + zs.length ≤ 9223372036854775807) :
    OpOK Try.prog E nt ops ⟨d, .call { callee := .builtin .append, args := #[s, x], argTypes := #[t, tx] }, ty, pos, af, gd⟩ T H [g] ⟨.own g es (xs ++ zs).length .row, [(g, .own e es ((xs ++ zs).map f))]⟩ := by
  have := ok_append_own tabT (E := E) (ops := ops) (H := H) (ty := ty) (pos := pos) (af := af) (gd := gd) (len' := (xs ++ zs).length) hd hs hx hg (by simp) hy hsrc (by simp) (by simpa using hlen) (by simpa using hlen2)
  rwa [← List.map_append] at this
theorem oo_idx {α : Type} {f : α → AV} {x ix : Operand} {t e : TypeId} {es bytes : Nat} {ea : Bool} {g : Nat} {xs : List α} {k : IntKind} {n : Int} {i : Nat} (hd : dOk nt d = true) (hs : tabT.ti t = some (.sl e es bytes ea)) (hx : evalO T x = some (.own g es xs.length .row)) (hg : H g = some (.own e es (xs.map f))) (hi : evalO T ix = some (.v (.int k n))) (hn : natOf n = some i)
    (hl : i < xs.length) : OpOK Try.prog E nt ops ⟨d, .indexAddr t x ix, ty, pos, af, gd⟩ T H [g] ⟨.own g es xs.length (.at (i * es) [i]), []⟩ := by
  have := natOf_eq hn; subst this
  exact ok_idx_own tabT (E := E) (ops := ops) (H := H) (ty := ty) (pos := pos) (af := af) (gd := gd) hd hs hx hg (by simp) hi (Int.natCast_nonneg _) (by omega)
theorem oo_fld {α : Type} {f : α → AV} {x : Operand} {s e : TypeId} {fd n o sz : Nat} {ag : Bool} {fs : List (Nat × Nat × Bool)} {g m off : Nat} {p : List Nat} {xs : List α} (hd : dOk nt d = true) (hx : evalO T x = some (.own g m xs.length (.at off p))) (hg : H g = some (.own e m (xs.map f))) (h0 : 0 < xs.length) (hs : tabT.ti s = some (.st n fs)) (hf : fs[fd]? = some (o, sz + 1, ag)) :
    OpOK Try.prog E nt ops ⟨d, .fieldAddr s x fd, ty, pos, af, gd⟩ T H [g] ⟨.own g m xs.length (.at (off + o) (p ++ [fd])), []⟩ :=
  ok_fld_own tabT (E := E) (ops := ops) (H := H) (ty := ty) (pos := pos) (af := af) (gd := gd) hd hx hg (by simp) (by simpa using h0) hs hf
theorem oo_load {α : Type} {f : α → AV} {x : Operand} {t e : TypeId} {g n off : Nat} {p : List Nat} {xs : List α} {z : AV} (hd : dOk nt d = true) (hx : evalO T x = some (.own g n xs.length (.at off p))) (hg : H g = some (.own e n (xs.map f))) (h0 : 0 < xs.length) (hp : subA p (.arr ((xs.map f).length * n) n (xs.map f)) = some z) (ho : offA p (.arr ((xs.map f).length * n) n (xs.map f)) = off) (hs : tabT.sa t = some (isAggA z, sizeA z)) :
    OpOK Try.prog E nt ops ⟨d, .load t x, ty, pos, af, gd⟩ T H [g] ⟨z, []⟩ :=
  ok_load_own tabT (E := E) (ops := ops) (H := H) (ty := ty) (pos := pos) (af := af) (gd := gd) hd hx hg (by simp) (by simpa using h0) hp ho hs
theorem oo_store {α : Type} {f : α → AV} {x y : Operand} {t e : TypeId} {g n off : Nat} {p : List Nat} {v old : AV} {xs : List α} {ys : List AV} (hx : evalO T x = some (.own g n xs.length (.at off p))) (hy : evalO T y = some v) (hg : H g = some (.own e n (xs.map f))) (h0 : 0 < xs.length) (hp : subA p (.arr ((xs.map f).length * n) n (xs.map f)) = some old) (ho : offA p (.arr ((xs.map f).length * n) n (xs.map f)) = off)
    (hv : setA v p (.arr ((xs.map f).length * n) n (xs.map f)) = some (.arr ((xs.map f).length * n) n ys)) (hs : tabT.sa t = some (isAggA v, sizeA v)) (hs' : sizeA v = sizeA old) (hnt : notTup v = true) : OpOK Try.prog E nt ops ⟨none, .store t x y, ty, pos, af, gd⟩ T H [g] ⟨.tup [], [(g, .own e n ys)]⟩ :=
  ok_store_own tabT (E := E) (ops := ops) (H := H) (ty := ty) (pos := pos) (af := af) (gd := gd) (d := none) rfl hx hy hg (by simp) (by simpa using h0) hp ho hv hs hs' hnt
end
end Go.Proofs.Ytofcabhahdecdaa

namespace Go.Proofs.Ytofcabhahdecdaa
open Go Go.RowKit
set_option linter.unusedVariables false
set_option linter.unusedSimpArgs false
set_option maxRecDepth 100000
set_option linter.unusedSectionVars false

/-- what a call keeps of the boxes, whatever its frame -/
structure Mem (E : Env) (B : Blk) (H : Hp) (w : World) : Prop where
  box : ∀ g bx, H g = some bx → RelBox E B H w g bx
  non : ∀ g, H g = none → B g = none
  inj : ∀ g g' b, live (H g) = true → live (H g') = true → B g = some b → B g' = some b → g = g'
  left : Left E w
  keep : ∀ g, H g = none → E.eb g = none
theorem Rel.mem {E : Env} {nt : Nat} {B : Blk} {T : Nat → Option AV} {H : Hp} {a : Act} {w : World} (r : Rel E nt B T H a w) : Mem E B H w := ⟨r.box, r.non, r.inj, r.left, r.keep⟩
theorem Mem.rel {E : Env} {nt : Nat} {B : Blk} {T : Nat → Option AV} {H : Hp} {a : Act} {w : World} (m : Mem E B H w) (hn : a.tmps.size = nt) (hd : a.defers = E.df) (ht : ∀ s x, T s = some x → ∃ v, a.tmps[s]? = some v ∧ Rdv (unst E B H) w B H x v) : Rel E nt B T H a w := ⟨hn, hd, ht, m.box, m.non, m.inj, m.left, m.keep⟩
/-! ### other names -/
mutual
def renA (σ : Nat → Nat) : AV → AV
  | .v x => .v x
  | .agg n fs => .agg n (renL σ fs)
  | .arr m n xs => .arr m n xs
  | .ptr g off p => .ptr (σ g) off p
  | .ref x => .ref x
  | .sl t n xs => .sl (t.map σ) n xs
  | .seg g off n p len cap => .seg (σ g) off n p len cap
  | .tup vs => .tup (renL σ vs)
  | .fn f a b => .fn f (renL σ a) (renL σ b)
  | .ifc t x => .ifc t (renA σ x)
  | .own g n len k => .own (σ g) n len k
def renL (σ : Nat → Nat) : List AV → List AV
  | [] => []
  | x :: l => renA σ x :: renL σ l
end
def renB (σ : Nat → Nat) : Bx → Bx
  | .var x => .var (renA σ x)
  | .froz x => .froz (renA σ x)
  | .tail e n k => .tail e n k
  | .own e n xs => .own e n xs
/-- of what kind a box is, but for a variable's content -/
def shB : Option Bx → Option Bx
  | some (.var _) => some (.var (.v undef))
  | some (.froz _) => some (.froz (.v undef))
  | x => x
theorem shB_ren (σ : Nat → Nat) (bx : Bx) : shB (some (renB σ bx)) = shB (some bx) := by cases bx <;> rfl
theorem shB_var {x y : Option Bx} (h : shB x = shB y) : isVar x = isVar y := by
  cases x with
  | none => cases y with
    | none => rfl
    | some y => cases y <;> simp [shB] at h
  | some x => cases y with
    | none => cases x <;> simp [shB] at h
    | some y => cases x <;> cases y <;> simp [shB] at h <;> rfl
theorem shB_live {x y : Option Bx} (h : shB x = shB y) : live x = live y := by
  cases x with
  | none => cases y with
    | none => rfl
    | some y => cases y <;> simp [shB] at h
  | some x => cases y with
    | none => cases x <;> simp [shB] at h
    | some y => cases x <;> cases y <;> simp [shB] at h <;> rfl
theorem shB_tail {x : Option Bx} {e : TypeId} {n k : Nat} (h : shB x = some (.tail e n k)) : x = some (.tail e n k) := by
  cases x with
  | none => cases h
  | some x => cases x <;> simp [shB] at h ⊢ <;> exact h
theorem shB_own {x : Option Bx} {e : TypeId} {n : Nat} {xs : List AV} (h : shB x = some (.own e n xs)) : x = some (.own e n xs) := by
  cases x with
  | none => cases h
  | some x => cases x <;> simp [shB] at h ⊢ <;> exact h
theorem shB_un {E : Env} {x y : Option Bx} (h : shB x = shB y) (o : Nat) : (match x with | some (.var _) => True | some (.tail _ n k) => k * n ≤ o | some (.own _ _ _) => True | _ => False) ↔ (match y with | some (.var _) => True | some (.tail _ n k) => k * n ≤ o | some (.own _ _ _) => True | _ => False) := by
  cases x with
  | none => cases y with
    | none => exact Iff.rfl
    | some y => cases y <;> simp [shB] at h
  | some x => cases y with
    | none => cases x <;> simp [shB] at h
    | some y =>
      cases x <;> cases y <;> simp only [shB, Option.some.injEq, Bx.tail.injEq, reduceCtorEq] at h <;> first | exact Iff.rfl | skip
      obtain ⟨_, rfl, rfl⟩ := h
      exact Iff.rfl
section
variable {U : Uns} {w : World} {B B' : Blk} {H H' : Hp} {σ : Nat → Nat}
theorem tok_ren {t n len cap : Nat} {A : Option Addr} (h1 : shB (H' (σ t)) = shB (H t)) (h2 : B' (σ t) = B t) : TokOk w B' H' (σ t) n len A cap ↔ TokOk w B H t n len A cap := by
  unfold TokOk
  rw [h2]
  constructor
  · rintro ⟨e, k, q1, q2⟩
    rw [q1] at h1
    exact ⟨e, k, shB_tail h1.symm, q2⟩
  · rintro ⟨e, k, q1, q2⟩
    rw [q1] at h1
    exact ⟨e, k, shB_tail h1, q2⟩
theorem own_ren {g n len : Nat} {k : OwnK} {v : Value} (h1 : shB (H' (σ g)) = shB (H g)) (h2 : B' (σ g) = B g) : OwnOk w B' H' (σ g) n len k v ↔ OwnOk w B H g n len k v := by
  unfold OwnOk
  rw [h2]
  constructor
  · rintro ⟨e, xs, q1, q2⟩
    rw [q1] at h1
    exact ⟨e, xs, shB_own h1.symm, q2⟩
  · rintro ⟨e, xs, q1, q2⟩
    rw [q1] at h1
    exact ⟨e, xs, shB_own h1, q2⟩
theorem pack_ren (x : AV) (c : List Value) : pack (renA σ x) c = pack x c := by
  cases x <;> simp only [renA] <;> first | rfl | (match c with | [] => rfl | [_] => rfl | _ :: _ :: _ => rfl)
mutual
theorem Rd_ren : ∀ (x : AV), (∀ g ∈ namesA x, shB (H' (σ g)) = shB (H g) ∧ B' (σ g) = B g) → ∀ {cs : List Value}, Rd U w (renA σ x) B' H' cs ↔ Rd U w x B H cs
  | .v x, _, _ => by simp only [renA, Rd]
  | .agg n fs, d, _ => by
    simp only [renA, Rd]
    exact and_congr_right fun _ => Rds_ren fs (by simpa [namesA] using d)
  | .arr m n xs, _, _ => by simp only [renA, Rd]
  | .ref x, _, _ => by simp only [renA, Rd]
  | .sl none n xs, _, _ => by
    simp only [renA, Rd, Option.map_none]
    refine exists_congr fun A => exists_congr fun cap => and_congr_right fun _ => and_congr_right fun _ => and_congr_right fun _ => and_congr_right fun _ => ?_
    exact ⟨fun _ t ht => (by cases ht), fun _ t ht => (by cases ht)⟩
  | .sl (some t) n xs, d, _ => by
    obtain ⟨k1, k2⟩ := d t (by simp [namesA])
    simp only [renA, Rd, Option.map_some]
    refine exists_congr fun A => exists_congr fun cap => and_congr_right fun _ => and_congr_right fun _ => and_congr_right fun _ => and_congr_right fun _ => ?_
    constructor
    · intro h t' ht
      injection ht with ht; subst ht
      exact (tok_ren k1 k2).1 (h _ rfl)
    · intro h t' ht
      injection ht with ht; subst ht
      exact (tok_ren k1 k2).2 (h _ rfl)
  | .ptr g _ _, d, _ => by
    obtain ⟨k1, k2⟩ := d g (by simp [namesA])
    simp only [renA, Rd, k2, shB_var k1]
  | .seg g _ _ _ _ _, d, _ => by
    obtain ⟨k1, k2⟩ := d g (by simp [namesA])
    simp only [renA, Rd, k2, shB_var k1]
  | .tup _, _, _ => by simp only [renA, Rd]
  | .fn f a b, d, _ => by
    simp only [namesA, List.mem_append] at d
    simp only [renA, Rd]
    exact exists_congr fun c1 => exists_congr fun c2 => and_congr_right fun _ => and_congr (Rdp_ren a (fun g hg => d g (.inl hg))) (Rdp_ren b (fun g hg => d g (.inr hg)))
  | .ifc t x, d, _ => by
    simp only [renA, Rd]
    exact exists_congr fun c => and_congr (Rd_ren x (by simpa [namesA] using d)) (by rw [pack_ren])
  | .own g _ _ _, d, _ => by
    obtain ⟨k1, k2⟩ := d g (by simp [namesA])
    simp only [renA, Rd]
    exact exists_congr fun v => and_congr (own_ren k1 k2) Iff.rfl
theorem Rds_ren : ∀ (xs : List AV), (∀ g ∈ namesL xs, shB (H' (σ g)) = shB (H g) ∧ B' (σ g) = B g) → ∀ {cs : List Value}, Rds U w (renL σ xs) B' H' cs ↔ Rds U w xs B H cs
  | [], _, _ => by simp only [renL, Rds]
  | x :: xs, d, _ => by
    simp only [namesL, List.mem_append] at d
    simp only [renL, Rds]
    exact exists_congr fun c1 => exists_congr fun c2 => and_congr_right fun _ => and_congr (Rd_ren x (fun g hg => d g (.inl hg))) (Rds_ren xs (fun g hg => d g (.inr hg)))
theorem Rdp_ren : ∀ (xs : List AV), (∀ g ∈ namesL xs, shB (H' (σ g)) = shB (H g) ∧ B' (σ g) = B g) → ∀ {cs : List Value}, Rdp U w (renL σ xs) B' H' cs ↔ Rdp U w xs B H cs
  | [], _, _ => by simp only [renL, Rdp]
  | x :: xs, d, _ => by
    simp only [namesL, List.mem_append] at d
    simp only [renL, Rdp]
    exact exists_congr fun c => exists_congr fun vs => and_congr (by rw [pack_ren]) (and_congr (Rd_ren x (fun g hg => d g (.inl hg))) (Rdp_ren xs (fun g hg => d g (.inr hg))))
end
theorem Rdv_ren {x : AV} {v : Value} (d : ∀ g ∈ namesA x, shB (H' (σ g)) = shB (H g) ∧ B' (σ g) = B g) : Rdv U w B' H' (renA σ x) v ↔ Rdv U w B H x v := by
  rcases isTup x with ⟨xs, rfl⟩ | hx
  · rw [Rdv_tup]
    simp only [renA]
    rw [Rdv_tup]
    exact exists_congr fun vs => and_congr_right fun _ => Rdp_ren xs (by simpa [namesA] using d)
  · have hx' : ∀ xs, renA σ x ≠ .tup xs := by
      intro xs h
      cases x <;> simp [renA] at h
      exact hx _ rfl
    rw [Rdv_not hx, Rdv_not hx']
    exact exists_congr fun c => and_congr (Rd_ren x d) (by rw [pack_ren])
end
/-! ### into a call -/
/-- a box's version -/
def verB : Bx → Nat
  | .tail _ _ k => k
  | .own _ _ xs => xs.length
  | _ => 0
def liveB : Bx → Bool
  | .froz _ => false
  | _ => true
theorem liveB_live {bx : Bx} (h : liveB bx = true) : live (some bx) = true := by cases bx <;> first | rfl | cases h
/-- from which cell on a box's block is unsteady -/
def fromB : Bx → Nat
  | .tail _ n k => k * n
  | _ => 0
section
variable {E : Env} {B : Blk} {H : Hp} {w : World}
theorem Mem.blk_lt (m : Mem E B H w) {g b : Nat} {bx : Bx} (h : H g = some bx) (hb : B g = some b) : b < w.heap.size := by
  have h1 := m.box g bx h
  cases bx with
  | var x => obtain ⟨b', cs, t, k1, k2, _⟩ := h1; rw [hb] at k1; injection k1 with k1; subst k1; exact heap_lt k2
  | froz x => obtain ⟨b', cs, k1, k2, _⟩ := h1; rw [hb] at k1; injection k1 with k1; subst k1; exact row_lt k2
  | tail e n k =>
    rcases h1.2.2 with ⟨k1, _⟩ | ⟨b', cur, cap, k1, k2, _⟩
    · rw [hb] at k1; cases k1
    · rw [hb] at k1; injection k1 with k1; subst k1; exact heap_lt k2
  | own e n xs =>
    rcases h1.2.2 with ⟨k1, _⟩ | ⟨b', cur, cap, c, k1, k2, _⟩
    · rw [hb] at k1; cases k1
    · rw [hb] at k1; injection k1 with k1; subst k1; exact heap_lt k2
theorem Mem.mine (m : Mem E B H w) {g b : Nat} {bx : Bx} (h : H g = some bx) (hl : liveB bx = true) (hb : B g = some b) : Mine E b (fromB bx) := by
  have h1 := m.box g bx h
  cases bx with
  | var x => obtain ⟨b', cs, t, k1, k2, k3, k4, k5⟩ := h1; rw [hb] at k1; injection k1 with k1; subst k1; exact k4
  | froz x => cases hl
  | tail e n k =>
    rcases h1.2.2 with ⟨k1, _⟩ | ⟨b', cur, cap, k1, k2, k3, k4, k5, k6⟩
    · rw [hb] at k1; cases k1
    · rw [hb] at k1; injection k1 with k1; subst k1; exact k6
  | own e n xs =>
    rcases h1.2.2 with ⟨k1, _⟩ | ⟨b', cur, cap, c, k1, k2, k3, k4, k5, k6, k7, k8⟩
    · rw [hb] at k1; cases k1
    · rw [hb] at k1; injection k1 with k1; subst k1; exact k8
theorem Mem.tie (m : Mem E B H w) {g : Nat} {bx : Bx} (h : H g = some bx) (hl : liveB bx = true) : Tie E g (verB bx) (B g) := by
  have h1 := m.box g bx h
  cases bx with
  | var x => obtain ⟨b', cs, t, k1, k2, k3, k4, k5⟩ := h1; rw [k1]; exact k5
  | froz x => cases hl
  | tail e n k => exact h1.2.1
  | own e n xs => exact h1.2.1
/-- an own block's unsteady cells -/
theorem unst_box {g b : Nat} {bx : Bx} (h : H g = some bx) (hl : liveB bx = true) (hb : B g = some b) {o : Nat} (ho : fromB bx ≤ o) : unst E B H b o := by
  refine .inr ⟨g, hb, ?_⟩
  rw [h]
  cases bx <;> first | trivial | exact ho | cases hl
theorem unst_from {g o : Nat} {bx : Bx} (h : H g = some bx) (hm : match H g with | some (.var _) => True | some (.tail _ n k) => k * n ≤ o | some (.own _ _ _) => True | _ => False) : liveB bx = true ∧ fromB bx ≤ o := by
  rw [h] at hm
  cases bx <;> first | exact ⟨rfl, Nat.zero_le _⟩ | exact ⟨rfl, hm⟩ | exact hm.elim
theorem un_live {x : Option Bx} {o : Nat} (hm : match x with | some (.var _) => True | some (.tail _ n k) => k * n ≤ o | some (.own _ _ _) => True | _ => False) : ∃ bx, x = some bx ∧ liveB bx = true ∧ fromB bx ≤ o := by
  cases x with
  | none => exact hm.elim
  | some bx => cases bx <;> first | exact ⟨_, rfl, rfl, Nat.zero_le _⟩ | exact ⟨_, rfl, rfl, hm⟩ | exact hm.elim
theorem Mem.unst_lt (m : Mem E B H w) {b o : Nat} (h : unst E B H b o) : b < w.heap.size := by
  rcases h with ⟨h, _⟩ | ⟨g, hb, h⟩
  · exact Nat.lt_of_lt_of_le h m.left.size
  · obtain ⟨bx, h1, _⟩ := un_live h
    exact m.blk_lt h1 hb
/-- of a live box's block the box alone tells what is unsteady -/
theorem Mem.unst_at (m : Mem E B H w) {g b o : Nat} {bx : Bx} (h : H g = some bx) (hl : liveB bx = true) (hb : B g = some b) (hu : unst E B H b o) : fromB bx ≤ o := by
  rcases hu with ⟨h1, h2, h3⟩ | ⟨j, h1, h2⟩
  · rcases m.mine h hl hb with k | k
    · omega
    · exact absurd k.2.1 h3
  · obtain ⟨by', h3, h4, h5⟩ := un_live h2
    have : j = g := m.inj j g b (by rw [h3]; exact liveB_live h4) (by rw [h]; exact liveB_live hl) h1 hb
    subst this
    rw [h] at h3; injection h3 with h3; subst h3
    exact h5
/-- how a call's boxes are named: by H1 inside, through σ without -/
structure Names (σ : Nat → Nat) (H H1 : Hp) : Prop where
  is : ∀ c bx, H1 c = some bx → H (σ c) = some (renB σ bx) ∧ liveB bx = true ∧ ∀ g ∈ boxNames bx, (H1 g).isSome = true
  inj : ∀ c c', (H1 c).isSome = true → (H1 c').isSome = true → σ c = σ c' → c = c'
  lo : ∀ c, c < 1000 → H1 c = none
def subB (σ : Nat → Nat) (B : Blk) (H1 : Hp) : Blk := fun c => if (H1 c).isSome then B (σ c) else none
def subE (E : Env) (B : Blk) (H : Hp) (w : World) (σ : Nat → Nat) (H1 : Hp) (lo : ∀ c, c < 1000 → H1 c = none) : Env := ⟨w, unst E B H, fun c => match H1 c with | some bx => some (verB bx, B (σ c)) | none => none, fun c hc => by rw [lo c hc], []⟩
theorem renB_live {σ : Nat → Nat} {bx : Bx} : liveB (renB σ bx) = liveB bx := by cases bx <;> rfl
theorem renB_from {σ : Nat → Nat} {bx : Bx} : fromB (renB σ bx) = fromB bx := by cases bx <;> rfl
theorem renB_ver {σ : Nat → Nat} {bx : Bx} : verB (renB σ bx) = verB bx := by cases bx <;> rfl
variable {σ : Nat → Nat} {H1 : Hp}
theorem subB_some (hn : Names σ H H1) {c : Nat} {bx : Bx} (h : H1 c = some bx) : subB σ B H1 c = B (σ c) := by simp [subB, h]
theorem subE_ent (hn : Names σ H H1) {b : Nat} : (subE E B H w σ H1 hn.lo).ent b ↔ ∃ c bx, H1 c = some bx ∧ B (σ c) = some b := by
  constructor
  · rintro ⟨c, k, h⟩
    simp only [subE] at h
    cases hh : H1 c with
    | none => rw [hh] at h; cases h
    | some bx =>
      rw [hh] at h
      simp only [Option.some.injEq, Prod.mk.injEq] at h
      exact ⟨c, bx, hh, h.2⟩
  · rintro ⟨c, bx, h1, h2⟩
    exact ⟨c, verB bx, by simp only [subE, h1, h2]⟩
theorem sub_unst (m : Mem E B H w) (hn : Names σ H H1) : unst (subE E B H w σ H1 hn.lo) (subB σ B H1) H1 = unst E B H := by
  funext b o
  refine propext ⟨?_, fun h => ?_⟩
  · rintro (⟨h1, h2, h3⟩ | ⟨c, h1, h2⟩)
    · exact h2
    · obtain ⟨bx, h3, h4, h5⟩ := un_live h2
      rw [subB_some hn h3] at h1
      obtain ⟨k1, k2, _⟩ := hn.is c bx h3
      exact unst_box k1 (renB_live.trans h4) h1 (by rw [renB_from]; exact h5)
  · by_cases he : (subE E B H w σ H1 hn.lo).ent b
    · obtain ⟨c, bx, h1, h2⟩ := (subE_ent hn).1 he
      obtain ⟨k1, k2, _⟩ := hn.is c bx h1
      have := m.unst_at k1 (renB_live.trans k2) h2 h
      rw [renB_from] at this
      exact unst_box h1 k2 (by rw [subB_some hn h1]; exact h2) this
    · exact .inl ⟨m.unst_lt h, h, he⟩
theorem names_cor (hn : Names σ H H1) {g : Nat} (hg : (H1 g).isSome = true) : shB (H (σ g)) = shB (H1 g) ∧ B (σ g) = subB σ B H1 g := by
  cases hh : H1 g with
  | none => rw [hh] at hg; cases hg
  | some bx => exact ⟨by rw [(hn.is g bx hh).1, shB_ren], (subB_some hn hh).symm⟩
/-- the boxes handed in, as the call sees them -/
theorem Mem.enter (m : Mem E B H w) (hn : Names σ H H1) : Mem (subE E B H w σ H1 hn.lo) (subB σ B H1) H1 w := by
  have eu := sub_unst m hn
  have ent : ∀ c bx b, H1 c = some bx → B (σ c) = some b → Mine (subE E B H w σ H1 hn.lo) b (fromB bx) := fun c bx b h1 h2 => by
    obtain ⟨k1, k2, _⟩ := hn.is c bx h1
    exact .inr ⟨m.blk_lt k1 h2, (subE_ent hn).2 ⟨c, bx, h1, h2⟩, fun o ho => unst_box k1 (renB_live.trans k2) h2 (by rw [renB_from]; exact ho)⟩
  have tie : ∀ c bx, H1 c = some bx → Tie (subE E B H w σ H1 hn.lo) c (verB bx) (B (σ c)) := fun c bx h1 k0 b0 h => by
    simp only [subE, h1, Option.some.injEq, Prod.mk.injEq] at h
    exact ⟨by omega, fun _ => h.2⟩
  refine ⟨fun c bx hc => ?_, fun c hc => by simp [subB, hc], fun c c' b h1 h2 h3 h4 => ?_, ⟨rfl, rfl, rfl, Nat.le_refl _, fun _ _ _ => rfl, Evo.refl _ _⟩, fun c hc => by simp only [subE, hc]⟩
  · obtain ⟨k1, k2, k3⟩ := hn.is c bx hc
    have hb := m.box _ _ k1
    have eB := subB_some (B := B) hn hc
    cases bx with
    | var x =>
      obtain ⟨b, cs, t, q1, q2, q3, q4, q5⟩ := hb
      refine ⟨b, cs, t, eB.trans q1, q2, ?_, ent c _ b hc q1, ?_⟩
      · rw [eu]
        exact (Rd_ren x (fun g hg => names_cor hn (k3 g hg))).1 q3
      · have := tie c _ hc
        rw [q1] at this
        exact this
    | froz x => cases k2
    | tail e n k =>
      obtain ⟨q0, q1, q2⟩ := hb
      refine ⟨q0, by rw [eB]; exact tie c _ hc, ?_⟩
      rw [eB]
      rcases q2 with q2 | ⟨b, cur, cap, p1, p2, p3, p4, p5, p6⟩
      · exact .inl q2
      · exact .inr ⟨b, cur, cap, p1, p2, p3, p4, p5, ent c _ b hc p1⟩
    | own e n xs =>
      obtain ⟨q0, q1, q2⟩ := hb
      refine ⟨q0, by rw [eB]; exact tie c _ hc, ?_⟩
      rw [eB]
      rcases q2 with q2 | ⟨b, cur, cap, cc, p1, p2, p3, p4, p5, p6, p7, p8⟩
      · exact .inl q2
      · exact .inr ⟨b, cur, cap, cc, p1, p2, p3, p4, p5, p6, by rw [eu]; exact p7, ent c _ b hc p1⟩
  · have back : ∀ c, live (H1 c) = true → ∃ bx, H1 c = some bx := fun c h => by
      cases hh : H1 c with
      | none => rw [hh] at h; cases h
      | some bx => exact ⟨bx, rfl⟩
    obtain ⟨bx, e1⟩ := back c h1
    obtain ⟨bx', e2⟩ := back c' h2
    rw [subB_some hn e1] at h3
    rw [subB_some hn e2] at h4
    obtain ⟨k1, k2, _⟩ := hn.is c bx e1
    obtain ⟨k3, k4, _⟩ := hn.is c' bx' e2
    exact hn.inj c c' (by rw [e1]; rfl) (by rw [e2]; rfl) (m.inj _ _ b (by rw [k1]; exact liveB_live (renB_live.trans k2)) (by rw [k3]; exact liveB_live (renB_live.trans k4)) h3 h4)
/-- what is handed in, as the call sees it -/
theorem Mem.enter_rd (m : Mem E B H w) (hn : Names σ H H1) {x : AV} (hx : ∀ g ∈ namesA x, (H1 g).isSome = true) {v : Value} (h : Rdv (unst E B H) w B H (renA σ x) v) : Rdv (unst (subE E B H w σ H1 hn.lo) (subB σ B H1) H1) w (subB σ B H1) H1 x v := by
  rw [sub_unst m hn]
  exact (Rdv_ren (fun g hg => names_cor hn (hx g hg))).1 h
/-! ### out of a call -/
/-- the kinds that boxes keep -/
def kindB : Bx → Bx → Prop
  | .var _, .var _ => True
  | .tail e n _, .tail e' n' _ => e' = e ∧ n' = n
  | .own e n _, .own e' n' _ => e' = e ∧ n' = n
  | _, _ => False
/-- what is known behind a call: H2 the boxes as the call leaves them, H' the caller's behind it -/
structure Outs (σ : Nat → Nat) (H H1 H2 H' : Hp) (B B2 B' : Blk) : Prop where
  names : Names σ H H1
  kind : ∀ c bx, H1 c = some bx → ∃ bx', H2 c = some bx' ∧ kindB bx bx'
  fresh : ∀ c, (H2 c).isSome = true → H1 c = none → H (σ c) = none
  inj : ∀ c c', (H2 c).isSome = true → (H2 c').isSome = true → σ c = σ c' → c = c'
  is : ∀ c bx, H2 c = some bx → H' (σ c) = some (renB σ bx) ∧ B' (σ c) = B2 c ∧ liveB bx = true ∧ ∀ g ∈ boxNames bx, (H2 g).isSome = true
  other : ∀ j, (∀ c, (H2 c).isSome = true → σ c ≠ j) → H' j = H j ∧ B' j = B j
variable {H2 H' : Hp} {B2 B' : Blk} {w' : World}
theorem kindB_live {x y : Bx} (h : kindB x y) : liveB y = true := by cases x <;> cases y <;> first | rfl | exact h.elim
section
variable (m : Mem E B H w) (o : Outs σ H H1 H2 H' B B2 B') (m2 : Mem (subE E B H w σ H1 o.names.lo) B2 H2 w')
include m o m2
/-- a box of the caller is one that was handed in, or was left alone -/
theorem outs_cases (j : Nat) : (∃ c bx, H2 c = some bx ∧ σ c = j) ∨ ((∀ c, (H2 c).isSome = true → σ c ≠ j) ∧ H' j = H j ∧ B' j = B j) := by
  by_cases h : ∃ c bx, H2 c = some bx ∧ σ c = j
  · exact .inl h
  · have : ∀ c, (H2 c).isSome = true → σ c ≠ j := fun c hc e => by
      cases hh : H2 c with
      | none => rw [hh] at hc; cases hc
      | some bx => exact h ⟨c, bx, hh, e⟩
    exact .inr ⟨this, o.other j this⟩
/-- a block handed in belongs to a box handed in -/
theorem outs_ent {b : Nat} (h : (subE E B H w σ H1 o.names.lo).ent b) : ∃ c bx, H1 c = some bx ∧ B (σ c) = some b ∧ H (σ c) = some (renB σ bx) ∧ liveB (renB σ bx) = true ∧ ∃ bx', H2 c = some bx' := by
  obtain ⟨c, bx, h1, h2⟩ := (subE_ent o.names).1 h
  obtain ⟨k1, k2, _⟩ := o.names.is c bx h1
  obtain ⟨bx', k3, _⟩ := o.kind c bx h1
  exact ⟨c, bx, h1, h2, k1, renB_live.trans k2, bx', k3⟩
theorem outs_un1 {b q : Nat} (h : unst E B' H' b q) : unst (subE E B H w σ H1 o.names.lo) B2 H2 b q := by
  rcases h with ⟨h1, h2, h3⟩ | ⟨j, h1, h2⟩
  · have hlt : b < w.heap.size := Nat.lt_of_lt_of_le h1 m.left.size
    refine .inl ⟨hlt, .inl ⟨h1, h2, h3⟩, fun he => ?_⟩
    obtain ⟨c, bx, k1, k2, k3, k4, _⟩ := outs_ent m o m2 he
    rcases m.mine k3 k4 k2 with k | k
    · omega
    · exact h3 k.2.1
  · rcases outs_cases m o m2 j with ⟨c, bx, k1, rfl⟩ | ⟨k1, k2, k3⟩
    · obtain ⟨q1, q2, q3, _⟩ := o.is c bx k1
      rw [q2] at h1
      have := unst_from q1 h2
      rw [renB_from] at this
      exact unst_box k1 q3 h1 this.2
    · rw [k3] at h1
      rw [k2] at h2
      obtain ⟨bx, q1, q2, q3⟩ := un_live h2
      refine .inl ⟨m.blk_lt q1 h1, unst_box q1 q2 h1 q3, fun he => ?_⟩
      obtain ⟨c, bx', p1, p2, p3, p4, bx2, p5⟩ := outs_ent m o m2 he
      exact k1 c (by rw [p5]; rfl) (m.inj _ _ b (by rw [p3]; exact liveB_live p4) (by rw [q1]; exact liveB_live q2) p2 h1)
theorem outs_un2 {b q : Nat} (hb : b < w.heap.size) (h : unst (subE E B H w σ H1 o.names.lo) B2 H2 b q) : unst E B H b q := by
  rcases h with ⟨h1, h2, h3⟩ | ⟨c, h1, h2⟩
  · exact h2
  · obtain ⟨bx, k1, k2, k3⟩ := un_live h2
    rcases m2.mine k1 k2 h1 with k | k
    · have : w.heap.size ≤ b := k
      omega
    · exact k.2.2 q k3
theorem outs_mine {b q : Nat} (h : Mine (subE E B H w σ H1 o.names.lo) b q) : Mine E b q := by
  rcases h with h | ⟨h1, h2, h3⟩
  · have h' : w.heap.size ≤ b := h
    exact .inl (Nat.le_trans m.left.size h')
  · obtain ⟨c, bx, k1, k2, k3, k4, _⟩ := outs_ent m o m2 h2
    have hm := m.mine k3 k4 k2
    rcases hm with hm | hm
    · exact .inl hm
    · have h4 : fromB (renB σ bx) ≤ q := m.unst_at k3 k4 k2 (h3 q (Nat.le_refl _))
      exact .inr ⟨hm.1, hm.2.1, fun o' ho' => hm.2.2 o' (by omega)⟩
theorem outs_evo : Evo (unst E B H) w w' := m2.left.evo
theorem outs_pic : Pic w w' B B' H H' := by
  have evo := outs_evo m o m2
  have same : ∀ c bx, H2 c = some bx → ∀ bx0, H (σ c) = some bx0 → ∃ bx1, H1 c = some bx1 ∧ bx0 = renB σ bx1 ∧ kindB bx1 bx := fun c bx h1 bx0 h2 => by
    cases hh : H1 c with
    | none => rw [o.fresh c (by rw [h1]; rfl) hh] at h2; cases h2
    | some bx1 =>
      obtain ⟨k1, _⟩ := o.names.is c bx1 hh
      rw [h2] at k1; injection k1 with k1
      obtain ⟨bx', k2, k3⟩ := o.kind c bx1 hh
      rw [h1] at k2; injection k2 with k2; subst k2
      exact ⟨bx1, rfl, k1, k3⟩
  have tie : ∀ c bx, H2 c = some bx → ∀ bx1, H1 c = some bx1 → verB bx1 ≤ verB bx ∧ (verB bx = verB bx1 → B2 c = B (σ c)) := fun c bx h1 bx1 h2 => by
    obtain ⟨_, _, k, _⟩ := o.is c bx h1
    exact m2.tie h1 k (verB bx1) (B (σ c)) (by simp only [subE, h2])
  refine ⟨fun j b h1 h2 => ?_, fun j h => ?_, fun t n len A cap h => ?_, fun g n len k v h => ?_⟩
  · rcases outs_cases m o m2 j with ⟨c, bx, k1, rfl⟩ | ⟨_, k2, k3⟩
    · cases hj : H (σ c) with
      | none => rw [hj] at h1; cases h1
      | some bx0 =>
        obtain ⟨bx1, p1, p2, p3⟩ := same c bx k1 bx0 hj
        obtain ⟨q1, q2, _⟩ := o.is c bx k1
        rw [q2]
        subst p2
        rw [hj] at h1
        cases bx1 with
        | var x =>
          cases bx with
          | var y => rw [(tie c _ k1 _ p1).2 rfl]; exact h2
          | _ => exact p3.elim
        | froz x => exact p3.elim
        | tail e n k => cases h1
        | own e n xs => cases h1
    · rw [k3]; exact h2
  · rcases outs_cases m o m2 j with ⟨c, bx, k1, rfl⟩ | ⟨_, k2, k3⟩
    · cases hj : H (σ c) with
      | none => rw [hj] at h; cases h
      | some bx0 =>
        obtain ⟨bx1, p1, p2, p3⟩ := same c bx k1 bx0 hj
        obtain ⟨q1, q2, _⟩ := o.is c bx k1
        rw [q1]
        subst p2
        rw [hj] at h
        cases bx1 with
        | var x => cases bx <;> first | rfl | exact p3.elim
        | froz x => exact p3.elim
        | tail e n k => cases h
        | own e n xs => cases h
    · rw [k2]; exact h
  · obtain ⟨e, k, h1, h2, h3⟩ := h
    rcases outs_cases m o m2 t with ⟨c, bx, k1, rfl⟩ | ⟨_, k2, k3⟩
    · obtain ⟨bx1, p1, p2, p3⟩ := same c bx k1 _ h1
      obtain ⟨q1, q2, _⟩ := o.is c bx k1
      cases bx1 with
      | tail e1 n1 k1' =>
        simp only [renB, Bx.tail.injEq] at p2
        obtain ⟨rfl, rfl, rfl⟩ := p2
        cases bx with
        | tail e2 n2 k2 =>
          obtain ⟨rfl, rfl⟩ := p3
          obtain ⟨t1, t2⟩ := tie c _ k1 _ p1
          simp only [verB] at t1 t2
          refine ⟨e2, k2, q1, by omega, fun hk => ?_⟩
          have hk1 : k2 = k := by omega
          rw [q2, t2 hk1]
          obtain ⟨r1, r2⟩ := h3 (by omega)
          refine ⟨r1, fun b hb => ?_⟩
          obtain ⟨s1, cur, s2, s3⟩ := r2 b hb
          obtain ⟨cs', u1, u2, _⟩ := evo.cell b cur e2 (0, 0) s2
          exact ⟨s1, cs', u1, u2.trans s3⟩
        | _ => exact p3.elim
      | var x => simp [renB] at p2
      | froz x => simp [renB] at p2
      | own e' n' xs => simp [renB] at p2
    · refine ⟨e, k, by rw [k2]; exact h1, h2, fun hk => ?_⟩
      rw [k3]
      obtain ⟨r1, r2⟩ := h3 hk
      refine ⟨r1, fun b hb => ?_⟩
      obtain ⟨s1, cur, s2, s3⟩ := r2 b hb
      obtain ⟨cs', u1, u2, _⟩ := evo.cell b cur e (0, 0) s2
      exact ⟨s1, cs', u1, u2.trans s3⟩
  · obtain ⟨e, xs, h1, h2, h3, h4⟩ := h
    have go : (B' g = B g) → (∃ xs', H' g = some (.own e n xs') ∧ xs.length ≤ xs'.length) → (∀ xs', H' g = some (.own e n xs') → xs'.length = xs.length → B' g = B g) → True := fun _ _ _ => trivial
    rcases outs_cases m o m2 g with ⟨c, bx, k1, rfl⟩ | ⟨_, k2, k3⟩
    · obtain ⟨bx1, p1, p2, p3⟩ := same c bx k1 _ h1
      obtain ⟨q1, q2, _⟩ := o.is c bx k1
      cases bx1 with
      | own e1 n1 xs1 =>
        simp only [renB, Bx.own.injEq] at p2
        obtain ⟨rfl, rfl, rfl⟩ := p2
        cases bx with
        | own e2 n2 xs2 =>
          obtain ⟨rfl, rfl⟩ := p3
          obtain ⟨t1, t2⟩ := tie c _ k1 _ p1
          simp only [verB] at t1 t2
          refine ⟨e2, xs2, q1, by omega, h3, fun hk => ?_⟩
          have hk1 : xs2.length = xs.length := by omega
          rw [q2, t2 hk1]
          obtain ⟨r1, r2⟩ := h4 (by omega)
          refine ⟨r1, fun b hb => ?_⟩
          obtain ⟨cur, s2, s3⟩ := r2 b hb
          obtain ⟨cs', u1, u2, _⟩ := evo.cell b cur e2 (0, 0) s2
          refine ⟨cs', u1, ?_⟩
          cases k with
          | row => obtain ⟨cp, v1, v2, v3, v4⟩ := s3; exact ⟨cp, v1, v2, v3, u2.trans v4⟩
          | _ => exact s3
        | _ => exact p3.elim
      | var x => simp [renB] at p2
      | froz x => simp [renB] at p2
      | tail e' n' k' => simp [renB] at p2
    · exact OwnOk.go evo k2 k3 ⟨e, xs, h1, h2, h3, h4⟩
/-- what the caller held reads as it read -/
theorem outs_rd1 {x : AV} {v : Value} (h : Rdv (unst E B H) w B H x v) : Rdv (unst E B' H') w' B' H' x v :=
  Rdv_go (outs_evo m o m2) (fun b q hb hu => outs_un2 m o m2 hb (outs_un1 m o m2 hu)) (outs_pic m o m2) h
/-- what the call leaves, as the caller sees it -/
theorem outs_cor {g : Nat} (hg : (H2 g).isSome = true) : shB (H' (σ g)) = shB (H2 g) ∧ B' (σ g) = B2 g := by
  cases hh : H2 g with
  | none => rw [hh] at hg; cases hg
  | some bx =>
    obtain ⟨k1, k2, _⟩ := o.is g bx hh
    exact ⟨by rw [k1, shB_ren], k2⟩
theorem outs_rd2 {x : AV} (hx : ∀ g ∈ namesA x, (H2 g).isSome = true) {v : Value} (h : Rdv (unst (subE E B H w σ H1 o.names.lo) B2 H2) w' B2 H2 x v) : Rdv (unst E B' H') w' B' H' (renA σ x) v :=
  (Rdv_ren (fun g hg => outs_cor m o m2 (hx g hg))).2 (Rdv_go (Evo.refl _ w') (fun b q _ hu => outs_un1 m o m2 hu) ⟨fun _ _ _ h => h, fun _ h => h, fun _ _ _ _ _ h => h, fun _ _ _ _ _ h => h⟩ h)
theorem outs_rdc {x : AV} (hx : ∀ g ∈ namesA x, (H2 g).isSome = true) {c : List Value} (h : Rd (unst (subE E B H w σ H1 o.names.lo) B2 H2) w' x B2 H2 c) : Rd (unst E B' H') w' (renA σ x) B' H' c :=
  (Rd_ren x (fun g hg => outs_cor m o m2 (hx g hg))).2 (Rd_go (Evo.refl _ w') (fun b q _ hu => outs_un1 m o m2 hu) x ⟨fun _ _ _ h => h, fun _ h => h, fun _ _ _ _ _ h => h, fun _ _ _ _ _ h => h⟩ h)
theorem outs_left : Left E w' := by
  have l2 := m2.left
  refine ⟨l2.os.trans m.left.os, l2.tape.trans m.left.tape, l2.output.trans m.left.output, Nat.le_trans m.left.size l2.size, fun k hk he => ?_, ⟨Nat.le_trans m.left.size l2.size, fun b cs t fr hb => ?_⟩⟩
  · have hk' : k < w.heap.size := Nat.lt_of_lt_of_le hk m.left.size
    refine (l2.block k hk' (fun h => ?_)).trans (m.left.block k hk he)
    obtain ⟨c, bx, k1, k2, k3, k4, _⟩ := outs_ent m o m2 h
    rcases m.mine k3 k4 k2 with q | q
    · omega
    · exact he q.2.1
  · obtain ⟨c1, h1, h2, h3⟩ := m.left.evo.cell b cs t fr hb
    obtain ⟨c2, k1, k2, k3⟩ := (outs_evo m o m2).cell b c1 t fr h1
    refine ⟨c2, k1, k2.trans h2, fun q hq => (k3 q (fun hu => ?_)).trans (h3 q hq)⟩
    have hlt := heap_lt hb
    rcases hu with ⟨_, u, _⟩ | ⟨j, u1, u2⟩
    · exact hq u
    · obtain ⟨bx, v1, v2, v3⟩ := un_live u2
      rcases m.mine v1 v2 u1 with r | r
      · omega
      · exact hq (r.2.2 q v3)
/-- **out of a call: the caller's boxes behind it** -/
theorem Mem.leave : Mem E B' H' w' := by
  have evo := outs_evo m o m2
  have hU : ∀ b q, b < w.heap.size → unst E B' H' b q → unst E B H b q := fun b q hb hu => outs_un2 m o m2 hb (outs_un1 m o m2 hu)
  have pic := outs_pic m o m2
  have keepB : ∀ j b, (∀ c, (H2 c).isSome = true → σ c ≠ j) → live (H j) = true → B j = some b → b < w.heap.size ∧ ¬ (subE E B H w σ H1 o.names.lo).ent b := fun j b h1 h2 h3 => by
    cases hh : H j with
    | none => rw [hh] at h2; cases h2
    | some bx =>
      refine ⟨m.blk_lt hh h3, fun he => ?_⟩
      obtain ⟨c, bx', p1, p2, p3, p4, bx2, p5⟩ := outs_ent m o m2 he
      exact h1 c (by rw [p5]; rfl) (m.inj _ _ b (by rw [p3]; exact liveB_live p4) h2 p2 h3)
  have lv2 : ∀ c bx, H2 c = some bx → live (H2 c) = true := fun c bx h => by
    obtain ⟨_, _, k, _⟩ := o.is c bx h
    rw [h]; exact liveB_live k
  have tie : ∀ c bx, H2 c = some bx → Tie E (σ c) (verB bx) (B2 c) := fun c bx h => by
    cases hh : H1 c with
    | none => exact Tie.none (m.keep _ (o.fresh c (by rw [h]; rfl) hh))
    | some bx1 =>
      obtain ⟨k1, k2, _⟩ := o.names.is c bx1 hh
      have t1 := m.tie k1 (renB_live.trans k2)
      rw [renB_ver] at t1
      obtain ⟨_, _, k, _⟩ := o.is c bx h
      obtain ⟨t2, t3⟩ := m2.tie h k (verB bx1) (B (σ c)) (by simp only [subE, hh])
      intro k0 b0 e
      obtain ⟨u1, u2⟩ := t1 k0 b0 e
      exact ⟨by omega, fun e' => (t3 (by omega)).trans (u2 (by omega))⟩
  refine ⟨fun j bx hj => ?_, fun j hj => ?_, fun j j' b h1 h2 h3 h4 => ?_, outs_left m o m2, fun j hj => ?_⟩
  · rcases outs_cases m o m2 j with ⟨c, bx2, k1, rfl⟩ | ⟨k1, k2, k3⟩
    · obtain ⟨q1, q2, q3, q4⟩ := o.is c bx2 k1
      rw [q1] at hj; injection hj with hj; subst hj
      have hb := m2.box c bx2 k1
      have ht := tie c bx2 k1
      cases bx2 with
      | var x =>
        obtain ⟨b, cs, t, p1, p2, p3, p4, p5⟩ := hb
        rw [p1] at ht
        exact ⟨b, cs, t, q2.trans p1, p2, outs_rdc m o m2 q4 p3, outs_mine m o m2 p4, ht⟩
      | froz x => cases q3
      | tail e n k =>
        obtain ⟨p0, p1, p2⟩ := hb
        refine ⟨p0, by rw [q2]; exact ht, ?_⟩
        rw [q2]
        rcases p2 with p2 | ⟨b, cur, cap, p3, p4, p5, p6, p7, p8⟩
        · exact .inl p2
        · exact .inr ⟨b, cur, cap, p3, p4, p5, p6, p7, outs_mine m o m2 p8⟩
      | own e n xs =>
        obtain ⟨p0, p1, p2⟩ := hb
        refine ⟨p0, by rw [q2]; exact ht, ?_⟩
        rw [q2]
        rcases p2 with p2 | ⟨b, cur, cap, cc, p3, p4, p5, p6, p7, p8, p9, p10⟩
        · exact .inl p2
        · exact .inr ⟨b, cur, cap, cc, p3, p4, p5, p6, p7, p8, Rdu_go (Evo.refl _ w') (fun b q _ hu => outs_un1 m o m2 hu) n xs (Pic.refl0 _ _) p9, outs_mine m o m2 p10⟩
    · have hj0 : H j = some bx := k2.symm.trans hj
      have hb := m.box j bx hj0
      have blk : ∀ b, live (some bx) = true → B j = some b → w'.heap[b]? = w.heap[b]? := fun b hl hb => by
        obtain ⟨q1, q2⟩ := keepB j b k1 (by rw [hj0]; exact hl) hb
        exact m2.left.block b q1 q2
      cases bx with
      | var x =>
        obtain ⟨b, cs, t, p1, p2, p3, p4⟩ := hb
        exact ⟨b, cs, t, k3.trans p1, (blk b rfl p1).trans p2, Rd_go evo hU x pic p3, p4⟩
      | froz x =>
        obtain ⟨b, cs, p1, p2, p3, p4⟩ := hb
        exact ⟨b, cs, k3.trans p1, evo.row p2 p3, quiet_sub hU p2 p3, Rd_go evo hU x pic p4⟩
      | tail e n k =>
        obtain ⟨p0, p1, p2⟩ := hb
        refine ⟨p0, by rw [k3]; exact p1, ?_⟩
        rcases p2 with ⟨p2, p3⟩ | ⟨b, cur, cap, p3, p4, p5⟩
        · exact .inl ⟨k3.trans p2, p3⟩
        · exact .inr ⟨b, cur, cap, k3.trans p3, (blk b rfl p3).trans p4, p5⟩
      | own e n xs =>
        obtain ⟨p0, p1, p2⟩ := hb
        refine ⟨p0, by rw [k3]; exact p1, ?_⟩
        rcases p2 with ⟨p2, p3⟩ | ⟨b, cur, cap, cc, p3, p4, p5, p6, p7, p8, p9, p10⟩
        · exact .inl ⟨k3.trans p2, p3⟩
        · exact .inr ⟨b, cur, cap, cc, k3.trans p3, (blk b rfl p3).trans p4, p5, p6, p7, p8, Rdu_go evo hU n xs (Pic.refl0 _ _) p9, p10⟩
  · rcases outs_cases m o m2 j with ⟨c, bx, k1, rfl⟩ | ⟨k1, k2, k3⟩
    · rw [(o.is c bx k1).1] at hj; cases hj
    · rw [k3]; exact m.non j (k2.symm.trans hj)
  · rcases outs_cases m o m2 j with ⟨c, bx, k1, rfl⟩ | ⟨k1, k2, k3⟩
    · obtain ⟨q1, q2, q3, _⟩ := o.is c bx k1
      rw [q2] at h3
      rcases outs_cases m o m2 j' with ⟨c', bx', p1, rfl⟩ | ⟨p1, p2, p3⟩
      · obtain ⟨r1, r2, r3, _⟩ := o.is c' bx' p1
        rw [r2] at h4
        rw [m2.inj c c' b (lv2 c bx k1) (lv2 c' bx' p1) h3 h4]
      · rw [p3] at h4
        rw [p2] at h2
        obtain ⟨u1, u2⟩ := keepB j' b p1 h2 h4
        rcases m2.mine k1 q3 h3 with k | k
        · have : w.heap.size ≤ b := k
          omega
        · exact absurd k.2.1 u2
    · rw [k3] at h3
      rw [k2] at h1
      obtain ⟨u1, u2⟩ := keepB j b k1 h1 h3
      rcases outs_cases m o m2 j' with ⟨c', bx', p1, rfl⟩ | ⟨p1, p2, p3⟩
      · obtain ⟨r1, r2, r3, _⟩ := o.is c' bx' p1
        rw [r2] at h4
        rcases m2.mine p1 r3 h4 with k | k
        · have : w.heap.size ≤ b := k
          omega
        · exact absurd k.2.1 u2
      · rw [p3] at h4
        rw [p2] at h2
        exact m.inj j j' b h1 h2 h3 h4
  · rcases outs_cases m o m2 j with ⟨c, bx, k1, rfl⟩ | ⟨k1, k2, k3⟩
    · rw [(o.is c bx k1).1] at hj; cases hj
    · exact m.keep j (k2.symm.trans hj)
end
end
end Go.Proofs.Ytofcabhahdecdaa

namespace Go.Proofs.Ytofcabhahdecdaa
open Go Go.RowKit
set_option linter.unusedVariables false
set_option linter.unusedSimpArgs false
set_option maxRecDepth 100000
set_option linter.unusedSectionVars false

section
variable {F : Fence} {n : Nat} {P : Program}
theorem wide_fn (hF : F.plain = Fence.wide) (f : FuncId) : F.fn f := by
  have : F.plain.fn f := by rw [hF]; trivial
  exact this
theorem wide_depth (hF : F.plain = Fence.wide) : F.depth = none := by
  have : F.plain.depth = none := by rw [hF]; rfl
  exact this
theorem calls_in (hF : F.plain = Fence.wide) {f : FuncId} {args : Array Value} {w : World} {R : Ending → World → Prop} (h : Calls P f args w R) : CallsIn F n P f args w R := by
  have : CallsIn F.plain n P f args w R := by rw [hF]; exact callsIn_wide.2 h
  exact this
theorem rows_in (hF : F.plain = Fence.wide) {row : String} {args : Array Value} {w : World} {R : Value → World → Prop} (h : Rows P row args w R) : RowsIn F n P row args w R := by
  have : RowsIn F.plain n P row args w R := by
    rw [hF]
    intro c cs _
    obtain ⟨v, w', h1, h2⟩ := h c cs
    exact ⟨v, w', h1, stepsIn_wide.2 h2⟩
  exact this
def noDefer (o : Oper) : Bool := match o.op with
  | .defer _ => false
  | _ => true
theorem op_in (hF : F.plain = Fence.wide) {o : Oper} (hd : noDefer o = true) {a : Act} {w : World} {K : Act → World → Prop} {Q : Exit → Act → World → Prop} (h : o.wp P a w K Q) : o.wpIn F n P a w K Q := by
  refine ⟨fun f _ => wide_fn hF f, ?_⟩
  have hs : o.semAt F.round a.eval = execOp a.eval o := Oper.semAt_eq _ _ _ (fun c hc => by unfold noDefer at hd; rw [hc] at hd; cases hd)
  rw [hs]
  unfold Oper.wp at h
  have hn : F.depth.isSome = true → 1 ≤ n := fun h => by rw [wide_depth hF] at h; cases h
  generalize (execOp a.eval o).run P w = r at h ⊢
  cases r with
  | ok x w' =>
    cases x with
    | value v => exact h
    | skip => exact h
    | defer d => exact h
    | enter f args => exact ⟨hn, calls_in hF h⟩
    | row row args => exact ⟨hn, rows_in hF h⟩
    | _ => exact h.elim
  | halt x w' => cases x <;> exact h
/-- a region in the text's order, inside the fence -/
theorem ops_in {E : Env} {nt : Nat} {ops : Array Oper} {Q : Exit → Act → World → Prop} {K : St → List Rec → Prop} (hF : F.plain = Fence.wide) (hd : ops.toList.all noDefer = true)
    (hK : ∀ S rs, K S rs → ∀ B a w, Rel E nt B S.t S.h a w → Q .normal a w) :
    ∀ (l : List Oper) (i : Nat) (S : St) (rs : List Rec) (B : Blk) (a : Act) (w : World), ops.toList.drop i = l → AWops P E nt ops l S rs K → Rel E nt B S.t S.h a w → wpOpsIn F n P ops Q (List.range' i l.length) a w
  | [], i, S, rs, B, a, w, _, h, r => hK S rs h B a w r
  | o :: l, i, S, rs, B, a, w, hl, h, r => by
    have hi : i < ops.size := by
      rcases Nat.lt_or_ge i ops.size with h | h
      · exact h
      · rw [List.drop_eq_nil_of_le (by simpa using h)] at hl; cases hl
    rw [List.drop_eq_getElem_cons (by simpa using hi)] at hl
    injection hl with h1 h2
    have ho : ops[i]? = some o := by rw [← h1]; simp
    have hm : noDefer o = true := List.all_eq_true.1 hd o (by rw [← h1]; exact List.getElem_mem _)
    rw [List.length_cons, List.range'_succ]
    simp only [wpOpsIn, ho]
    obtain ⟨S1, ⟨es1, es2⟩, h⟩ := h
    rw [← es1, ← es2] at r
    have e1 := St.app_t S1 o.dst
    have e2 := St.app_h S1 o.dst
    rcases h with ⟨hw, rh, e, hok, hrest⟩ | ⟨hw, hdd, hrest⟩
    · rw [if_pos (wanted_of r hw)]
      refine op_in hF hm (hok S1.t S1.h (fun _ _ => rfl) (fun _ _ => rfl) (fun _ _ => rfl) B a w r _ _ fun B' a' w' r' => ?_)
      rw [← e1, ← e2] at r'
      exact ops_in hF hd hK l (i + 1) _ _ B' a' w' h2 hrest r'
    · rw [if_neg (by rw [wanted_of r hw]; simp)]
      have r' := r.undef hdd
      have e1' := e1 ⟨.tup [], []⟩
      have e2' := e2 ⟨.tup [], []⟩
      simp only [updH] at e2'
      rw [← e1', ← e2'] at r'
      exact ⟨fun f _ => wide_fn hF f, ops_in hF hd hK l (i + 1) _ _ B _ w h2 hrest r'⟩
end
/-- the walk of a code inside the fence -/
def AWR (F : Fence) (n : Nat) (P : Program) (E : Env) (nt : Nat) (c : Code) (S : St) (Q : Exit → St → Prop) : Prop :=
  ∀ B a w, Rel E nt B S.t S.h a w → c.wpIn F n P (fun e a' w' => ∃ B' S', Rel E nt B' S'.t S'.h a' w' ∧ Q e S') a w
section
variable {F : Fence} {n : Nat} {P : Program} {E : Env} {nt : Nat} {S : St} {Q : Exit → St → Prop}
theorem AWR_skip (h : Q .normal S) : AWR F n P E nt .skip S Q := fun B a w r => wpIn_skip ⟨B, S, r, h⟩
theorem AWR_seq {x y : Code} (h : AWR F n P E nt x S (thenA (fun S' => AWR F n P E nt y S' Q) Q)) : AWR F n P E nt (.seq x y) S Q := fun B a w r =>
  wpIn_seq (wpIn_mono (h B a w r) fun e a w ⟨B', S', h1, h2⟩ => by
    cases e with
    | normal => exact h2 B' a w h1
    | outgrown => exact h2.elim
    | exit id => exact ⟨B', S', h1, h2⟩
    | goto l => exact ⟨B', S', h1, h2⟩
    | ret => exact ⟨B', S', h1, h2⟩
    | panic c => exact ⟨B', S', h1, h2⟩)
theorem AWR_region {id : Nat} {ops : Array Oper} (hF : F.plain = Fence.wide) (hd : ops.toList.all noDefer = true) (h : AWops P E nt ops ops.toList S [] (fun S' _ => Q .normal S')) : AWR F n P E nt (.region id ops false) S Q := fun B a w r => by
  refine wpIn_region ?_
  have := ops_in (n := n) (Q := fun e a' w' => ∃ B' S', Rel E nt B' S'.t S'.h a' w' ∧ Q e S') hF hd (fun S rs hK B a w r => ⟨B, S, r, hK⟩) ops.toList 0 S [] B a w rfl h r
  rw [List.range_eq_range']
  simpa using this
theorem AWR_wide {c : Code} (h : AW P E nt c S Q) : AWR Fence.wide n P E nt c S Q := fun B a w r => wpIn_wide.2 (h B a w r)
theorem AWR_unwide {c : Code} (h : AWR Fence.wide n P E nt c S Q) : AW P E nt c S Q := fun B a w r => wpIn_wide.1 (h B a w r)
end
end Go.Proofs.Ytofcabhahdecdaa

namespace Go.Proofs.Ytofcabhahdecdaa
open Go Go.RowKit
set_option linter.unusedVariables false
set_option linter.unusedSimpArgs false
set_option maxRecDepth 100000
set_option linter.unusedSectionVars false

abbrev hL (l : List (Nat × Bx)) : Hp := fun k => look k l
/-- f, handed args, with the boxes H1 of its caller's in hand: it returns r, and leaves the boxes H2 (new ones among them) -/
def CFnX (P : Program) (X : Env → Prop) (f : FuncId) (args : List AV) (H1 : List (Nat × Bx)) (r : AV) (H2 : List (Nat × Bx)) : Prop :=
  ∀ (E : Env) (B : Blk) (w : World) (vs : List Value), X E → E.df = [] → Mem E B (hL H1) w → Rdp (unst E B (hL H1)) w args B (hL H1) vs →
    Calls P f vs.toArray w fun e w' => ∃ v B2, e = .returned v ∧ Mem E B2 (hL H2) w' ∧ Rdv (unst E B2 (hL H2)) w' B2 (hL H2) r v
abbrev CFn (P : Program) (f : FuncId) (args : List AV) (H1 : List (Nat × Bx)) (r : AV) (H2 : List (Nat × Bx)) : Prop := CFnX P (fun _ => True) f args H1 r H2
/-- fewer boxes -/
theorem Mem.drop {E : Env} {B : Blk} {H H' : Hp} {w : World} (m : Mem E B H w) (hb : ∀ g bx, H' g = some bx → H g = some bx ∧ ∀ j ∈ boxNames bx, (H' j).isSome = true) (hk : ∀ g, H' g = none → E.eb g = none) :
    Mem E (fun g => if (H' g).isSome then B g else none) H' w ∧ ∀ (x : AV) {c : List Value}, (∀ g ∈ namesA x, (H' g).isSome = true) → Rd (unst E B H) w x B H c → Rd (unst E (fun g => if (H' g).isSome then B g else none) H') w x (fun g => if (H' g).isSome then B g else none) H' c := by
  let B' : Blk := fun g => if (H' g).isSome then B g else none
  have eB : ∀ g, (H' g).isSome = true → H' g = H g ∧ B' g = B g := by
    intro g hg
    refine ⟨?_, by simp [B', hg]⟩
    cases h : H' g with
    | none => rw [h] at hg; cases hg
    | some bx => exact ((hb g bx h).1).symm
  have hun : ∀ b o, unst E B' H' b o → unst E B H b o := by
    rintro b o (h | ⟨g, h1, h2⟩)
    · exact .inl h
    · refine .inr ⟨g, ?_, ?_⟩
      · simp only [B'] at h1
        split at h1
        · exact h1
        · cases h1
      · cases hg : H' g with
        | none => rw [hg] at h2; exact h2.elim
        | some bx => rw [(hb g bx hg).1]; rw [hg] at h2; exact h2
  have sub : ∀ (x : AV) {cs : List Value}, (∀ g ∈ namesA x, (H' g).isSome = true) → Rd (unst E B H) w x B H cs → Rd (unst E B' H') w x B' H' cs := fun x cs hx h =>
    Rd_names x (fun g hg => (eB g (hx g hg))) (Rd_go (Evo.refl _ w) (fun b o _ h => hun b o h) x ⟨fun _ _ _ h => h, fun _ h => h, fun _ _ _ _ _ h => h, fun _ _ _ _ _ h => h⟩ h)
  refine ⟨⟨fun g bx hg => ?_, fun g hg => by simp [hg], fun g g' b h1 h2 h3 h4 => ?_, m.left, hk⟩, sub⟩
  · obtain ⟨h1, h2⟩ := hb g bx hg
    have h3 := m.box g bx h1
    have e2 := (eB g (by rw [hg]; rfl)).2
    cases bx with
    | var x =>
      obtain ⟨b, cs, t, k1, k2, k3, k4⟩ := h3
      exact ⟨b, cs, t, e2.trans k1, k2, sub x (fun g hg => h2 g hg) k3, k4⟩
    | froz x =>
      obtain ⟨b, cs, k1, k2, k3, k4⟩ := h3
      exact ⟨b, cs, e2.trans k1, k2, fun o h5 h6 h7 => k3 o h5 h6 (hun b o h7), sub x (fun g hg => h2 g hg) k4⟩
    | tail e n k =>
      obtain ⟨k0, kT, k1⟩ := h3
      refine ⟨k0, ?_⟩
      show Tie E g k (B' g) ∧ (B' g = none ∧ k = 0 ∨ ∃ b cur cap, B' g = some b ∧ _)
      rw [e2]
      exact ⟨kT, k1⟩
    | own e n xs =>
      obtain ⟨k0, kT, k1⟩ := h3
      refine ⟨k0, ?_⟩
      show Tie E g xs.length (B' g) ∧ (B' g = none ∧ xs = [] ∨ ∃ b cur cap c, B' g = some b ∧ _)
      rw [e2]
      refine ⟨kT, k1.imp id ?_⟩
      rintro ⟨b, cur, cap, c, m1, m2, m3, m4, m5, m6, m7, m8⟩
      exact ⟨b, cur, cap, c, m1, m2, m3, m4, m5, m6, Rdu_go (Evo.refl _ w) (fun b o _ h => hun b o h) n xs (Pic.refl0 _ _) m7, m8⟩
  · have hl : ∀ j, live (H' j) = true → live (H j) = true ∧ B' j = B j := by
      intro j hj
      cases hh : H' j with
      | none => rw [hh] at hj; cases hj
      | some bx => exact ⟨by rw [(hb j bx hh).1, ← hh]; exact hj, (eB j (by rw [hh]; rfl)).2⟩
    obtain ⟨k1, k2⟩ := hl g h1
    obtain ⟨k3, k4⟩ := hl g' h2
    exact m.inj g g' b k1 k3 (k2 ▸ h3) (k4 ▸ h4)

/-! ### a contract out of a walk -/
/-- what a result reads as when the function is left: plain data, or with the boxes that are left -/
def RCv (H : Hp) (H2 : List (Nat × Bx)) (x y : AV) : Prop := (x = y ∧ (namesA y).all (fun g => (look g H2).isSome) = true) ∨ Wk H x y
def Res1C (P : Program) (S : St) (H2 : List (Nat × Bx)) : ResultVar → AV → Prop
  | .tmp t, y => ∃ x, S.t t = some x ∧ (∀ xs, x ≠ .tup xs) ∧ RCv S.h H2 x y
  | .cell a t, y => ∃ g x, S.t a = some (.ptr g 0 []) ∧ S.h g = some (.var x) ∧ TyOf P t (isAggA x) (sizeA x) ∧ RCv S.h H2 x y
def ResLC (P : Program) (S : St) (H2 : List (Nat × Bx)) : List ResultVar → List AV → Prop
  | [], [] => True
  | r :: rs, y :: ys => Res1C P S H2 r y ∧ ResLC P S H2 rs ys
  | [], _ :: _ => False
  | _ :: _, [] => False
/-- what is kept of the boxes -/
def LeaveOk (H : List (Nat × Bx)) (H2 : List (Nat × Bx)) : Prop := SubH H H2 H2 ∧ SubK H H2 = true
section
variable {P : Program} {E : Env} {nt : Nat} {B : Blk} {S : St} {a : Act} {w : World} {H2 : List (Nat × Bx)}
abbrev dropB (B : Blk) (H' : Hp) : Blk := fun g => if (H' g).isSome then B g else none
theorem LeaveOk.mem {H : List (Nat × Bx)} (h : LeaveOk H H2) (m : Mem E B (hL H) w) : Mem E (dropB B (hL H2)) (hL H2) w ∧ ∀ (x : AV) {c : List Value}, (∀ g ∈ namesA x, (hL H2 g).isSome = true) → Rd (unst E B (hL H)) w x B (hL H) c → Rd (unst E (dropB B (hL H2)) (hL H2)) w x (dropB B (hL H2)) (hL H2) c := by
  obtain ⟨h1, h2⟩ := h
  refine m.drop (fun g bx hg => ?_) fun g hg => ?_
  · obtain ⟨k1, k2⟩ := h1.all _ (look_mem hg)
    rw [List.all_eq_true] at k2
    exact ⟨k1, k2⟩
  · cases hh : hL H g with
    | none => exact m.keep g hh
    | some bx =>
      unfold SubK at h2
      rw [List.all_eq_true] at h2
      have h1 := h2 _ (look_mem hh)
      rw [Bool.or_eq_true] at h1
      rcases h1 with h1 | h1
      · exact E.lo g (by simpa using h1)
      · rw [show look g H2 = none from hg] at h1; cases h1
theorem RCv.run (hl : LeaveOk S.H H2) (m : Mem E B S.h w) {x y : AV} (h : RCv S.h H2 x y) {c : List Value} (hr : Rd (unst E B S.h) w x B S.h c) : Rd (unst E (dropB B (hL H2)) (hL H2)) w y (dropB B (hL H2)) (hL H2) c ∧ pack x c = pack y c := by
  rcases h with ⟨rfl, h⟩ | h
  · rw [List.all_eq_true] at h
    exact ⟨(hl.mem m).2 _ h hr, rfl⟩
  · obtain ⟨h1, h2⟩ := h _ _ _ _ hr
    refine ⟨?_, h2⟩
    refine Rd_free _ (Rd_go (Evo.refl _ w) (fun b o _ hu => ?_) _ (Pic.refl0 _ _) h1)
    rcases hu with hu | ⟨g, k1, k2⟩
    · exact .inl hu
    · obtain ⟨bx, q1, q2, q3⟩ := un_live k2
      simp only [dropB, q1, Option.isSome_some, if_true] at k1
      have := (hl.1.all _ (look_mem q1)).1
      exact unst_box (H := S.h) this q2 k1 q3
theorem res1C_run (hl : LeaveOk S.H H2) (r : Rel E nt B S.t S.h a w) {v : ResultVar} {y : AV} (h : Res1C P S H2 v y) : ∃ c, (resOf a.tmps v).run P w = .ok (pack y c) w ∧ Rd (unst E (dropB B (hL H2)) (hL H2)) w y (dropB B (hL H2)) (hL H2) c := by
  cases v with
  | tmp t =>
    obtain ⟨x, h1, h2, h3⟩ := h
    obtain ⟨u, h4, h5⟩ := r.tmp t x h1
    rw [Rdv_not h2] at h5
    obtain ⟨c, h6, rfl⟩ := h5
    obtain ⟨h7, h8⟩ := h3.run hl r.mem h6
    refine ⟨c, ?_, h7⟩
    rw [← h8]
    have : a.tmps.getD t undef = pack x c := by simp [Array.getD_eq_getD_getElem?, h4]
    simp only [resOf, this]; rfl
  | cell ad t =>
    obtain ⟨g, x, h1, h2, h3, h4⟩ := h
    obtain ⟨u, h5, h6⟩ := r.tmp ad _ h1
    rw [Rdv_not (by simp)] at h6
    obtain ⟨c, h7, rfl⟩ := h6
    simp only [Rd] at h7
    obtain ⟨_, b, h8, rfl⟩ := h7
    obtain ⟨b', cs, ty, k1, k2, k3, _⟩ := r.box g _ h2
    rw [h8] at k1
    injection k1 with k1
    subst k1
    have hl' := Rd_len k3
    have hrow : row? w b 0 (sizeA x) = some cs.toArray := by rw [row_block k2]; exact rowOf_full _ _ (by simpa using hl')
    obtain ⟨k4, k5⟩ := h4.run hl r.mem k3
    refine ⟨cs, ?_, k4⟩
    have hv := run_loadVar_of h3 hrow (by intro h; cases x <;> simp_all [isAggA, sizeA])
    have : a.tmps.getD ad undef = .pointer (some ⟨b, 0, none⟩) := by simp [Array.getD_eq_getD_getElem?, h5, pack]
    simp only [resOf, this, asAddr, Sem.run_bind, Sem.run_pure, Result.andThen_ok, hv]
    rw [← k5]
    cases hx : isAggA x
    · have he := (Rd_pack k3).2 hx
      obtain ⟨v, rfl⟩ : ∃ v, cs = [v] := ⟨_, he⟩
      simp at he
      simp [← he]
    · simp [(Rd_pack k3).1 hx]
theorem resLC_run (hl : LeaveOk S.H H2) (r : Rel E nt B S.t S.h a w) : ∀ (vs : List ResultVar) (ys : List AV), ResLC P S H2 vs ys → ∃ us : List Value, (vs.mapM (resOf a.tmps)).run P w = .ok us w ∧ us.length = vs.length ∧ Rdp (unst E (dropB B (hL H2)) (hL H2)) w ys (dropB B (hL H2)) (hL H2) us
  | [], [], _ => ⟨[], rfl, rfl, by simp [Rdp]⟩
  | v :: vs, y :: ys, h => by
    obtain ⟨h1, h2⟩ := h
    obtain ⟨c, k1, k2⟩ := res1C_run hl r h1
    obtain ⟨us, k3, k4, k5⟩ := resLC_run hl r vs ys h2
    refine ⟨pack y c :: us, ?_, by simp [k4], by simp only [Rdp]; exact ⟨c, us, rfl, k2, k5⟩⟩
    simp [List.mapM_cons, k1, k3]
  | [], _ :: _, h => h.elim
  | _ :: _, [], h => h.elim
/-- the results, as one value -/
theorem resultsC {fn : Func} {rv : List ResultVar} (hrv : fn.results.toList = rv) (hl : LeaveOk S.H H2) (r : Rel E nt B S.t S.h a w) {ys : List AV} (h : ResLC P S H2 rv ys) : ∃ v, (results fn a.tmps).run P w = .ok v w ∧ Rdv (unst E (dropB B (hL H2)) (hL H2)) w (dropB B (hL H2)) (hL H2) (resA ys) v := by
  subst hrv
  obtain ⟨us, k1, k2, k3⟩ := resLC_run hl r _ _ h
  have hm := mapM_arr _ _ _ _ _ k1
  rw [Array.toArray_toList] at hm
  rw [results_eq, Sem.run_bind, hm]
  obtain ⟨m1, m2⟩ := Rdp_get k3
  by_cases h1 : us.length = 1
  · obtain ⟨u, rfl⟩ := List.length_eq_one_iff.1 h1
    obtain ⟨y, rfl⟩ := List.length_eq_one_iff.1 (m1.trans h1)
    refine ⟨u, by simp, ?_⟩
    obtain ⟨v, h3, c', h4, h5⟩ := m2 0 y rfl
    simp at h3
    subst h3
    show Rdv _ w _ _ y u
    rw [Rdv_not (Rd_notup h4)]
    exact ⟨c', h4, h5⟩
  · refine ⟨.tuple us.toArray, by simp [h1], ?_⟩
    have hr : resA ys = .tup ys := by
      match ys, m1 with
      | [], _ => rfl
      | [y], m1 => exact absurd m1.symm h1
      | y :: z :: l, _ => rfl
    rw [hr, Rdv_tup]
    exact ⟨us, rfl, k3⟩
end
theorem frame_in {E : Env} {B : Blk} {H1 : List (Nat × Bx)} {w : World} {vs : List Value} {args : List AV} {nt : Nat} (hdf : E.df = []) (m : Mem E B (hL H1) w) (hvs : Rdp (unst E B (hL H1)) w args B (hL H1) vs) (hn : args.length ≤ nt) :
    Rel E nt B (St.t ⟨bindsA 0 args, H1⟩) (St.h ⟨bindsA 0 args, H1⟩) { tmps := vs.toArray ++ Array.replicate (nt - vs.toArray.size) undef, defers := [] } w := by
  obtain ⟨hl, hg⟩ := Rdp_get hvs
  refine m.rel (by simp; omega) hdf.symm fun s x hs => ?_
  have hs' : look s (bindsA 0 args) = some x := hs
  rw [bindsA_look] at hs'
  simp only [Nat.zero_le, if_true, Nat.sub_zero] at hs'
  obtain ⟨v, h1, c', h2, h3⟩ := hg s x hs'
  have hsl : s < vs.length := (List.getElem?_eq_some_iff.1 h1).1
  refine ⟨v, ?_, ?_⟩
  · rw [Array.getElem?_append_left (by simpa using hsl)]
    simpa using h1
  · rw [Rdv_not (Rd_notup h2)]; exact ⟨c', h2, h3⟩
theorem CFn_intro {P : Program} {X : Env → Prop} {f : FuncId} {fn : Func} {c : Code} {args : List AV} {H1 H2 : List (Nat × Bx)} {r : AV} {nt : Nat} {rv : List ResultVar} (hf : P.funcs[f]? = some fn) (hb : fn.body = some c) (hnt : fn.ntmps = nt) (hrv : fn.results = rv.toArray) (hn : args.length ≤ nt) (ys : List AV) (hy : resA ys = r)
    (h : ∀ E, X E → AW P E nt c ⟨bindsA 0 args, H1⟩ (fun e S' => (e = .normal ∨ e = .ret) ∧ LeaveOk S'.H H2 ∧ ResLC P S' H2 rv ys)) : CFnX P X f args H1 r H2 := by
  have hrv' : fn.results.toList = rv := by rw [hrv]
  subst hnt
  intro E B w vs hX hdf m hvs
  subst hy
  refine calls_of_wp hf hb (wp_mono (h E hX B _ w (frame_in hdf m hvs hn)) ?_)
  rintro e a' w' ⟨B', S', r', he, hl, hres⟩
  obtain ⟨v, k1, k2⟩ := resultsC hrv' hl r' hres
  have hd : a'.defers = [] := r'.df.trans hdf
  rcases he with rfl | rfl
  · exact ⟨hd, v, k1, v, _, rfl, (hl.mem r'.mem).1, k2⟩
  · exact ⟨hd, v, k1, v, _, rfl, (hl.mem r'.mem).1, k2⟩
/-! ### a call -/
def NamesOk (σ : Nat → Nat) (H : Hp) (H1 : List (Nat × Bx)) : List (Nat × Bx) → Prop
  | [] => True
  | (c, bx) :: l => H (σ c) = some (renB σ bx) ∧ (liveB bx && (boxNames bx).all (fun g => (look g H1).isSome) && Nat.ble 1000 c) = true ∧ NamesOk σ H H1 l
def kindBb : Bx → Bx → Bool
  | .var _, .var _ => true
  | .tail e n _, .tail e' n' _ => Nat.beq e' e && Nat.beq n' n
  | .own e n _, .own e' n' _ => Nat.beq e' e && Nat.beq n' n
  | _, _ => false
theorem kindBb_ok {x y : Bx} (h : kindBb x y = true) : kindB x y := by
  cases x <;> cases y <;> simp only [kindBb, Bool.and_eq_true, Bool.false_eq_true] at h <;> first | trivial | exact ⟨Nat.eq_of_beq_eq_true h.1, Nat.eq_of_beq_eq_true h.2⟩
def notIn (n : Nat) : List Nat → Bool
  | [] => true
  | m :: l => !Nat.beq m n && notIn n l
def nodupB : List Nat → Bool
  | [] => true
  | n :: l => notIn n l && nodupB l
/-- new boxes get names that the caller does not have -/
def FreshOk (σ : Nat → Nat) (H : Hp) (H1 : List (Nat × Bx)) : List (Nat × Bx) → Prop
  | [] => True
  | (c, bx) :: l => (match look c H1 with | some b1 => kindBb b1 bx = true | none => H (σ c) = none) ∧ FreshOk σ H H1 l
def OutB (σ : Nat → Nat) (H1 H2 : List (Nat × Bx)) : Bool :=
  (H2.all fun p => liveB p.2 && (boxNames p.2).all (fun g => (look g H2).isSome)) && (H1.all fun p => (look p.1 H2).isSome) && nodupB (H2.map fun p => σ p.1)
theorem notIn_ok {n : Nat} : ∀ {l : List Nat}, notIn n l = true → n ∉ l
  | [], _ => by simp
  | m :: l, h => by
    simp only [notIn, Bool.and_eq_true, Bool.not_eq_true'] at h
    intro hm
    rcases List.mem_cons.1 hm with rfl | hm
    · simp at h
    · exact notIn_ok h.2 hm
theorem nodup_look {σ : Nat → Nat} : ∀ {l : List (Nat × Bx)}, nodupB (l.map fun p => σ p.1) = true → ∀ p ∈ l, ∀ q ∈ l, σ p.1 = σ q.1 → p = q
  | [], _, p, h, _, _, _ => by cases h
  | x :: l, h, p, hp, q, hq, e => by
    simp only [List.map_cons, nodupB, Bool.and_eq_true] at h
    have hn := notIn_ok h.1
    rcases List.mem_cons.1 hp with rfl | hp'
    · rcases List.mem_cons.1 hq with rfl | hq'
      · rfl
      · exact absurd (List.mem_map.2 ⟨q, hq', e.symm⟩) hn
    · rcases List.mem_cons.1 hq with rfl | hq'
      · exact absurd (List.mem_map.2 ⟨p, hp', e⟩) hn
      · exact nodup_look h.2 p hp' q hq' e
theorem NamesOk.all {σ : Nat → Nat} {H : Hp} {H1 : List (Nat × Bx)} : ∀ {l : List (Nat × Bx)}, NamesOk σ H H1 l → ∀ p ∈ l, H (σ p.1) = some (renB σ p.2) ∧ liveB p.2 = true ∧ (∀ g ∈ boxNames p.2, (look g H1).isSome = true) ∧ 1000 ≤ p.1
  | [], _, p, h => by cases h
  | (c, bx) :: l, ⟨h1, h2, h3⟩, p, h => by
    rcases List.mem_cons.1 h with rfl | h
    · simp only [Bool.and_eq_true, List.all_eq_true] at h2
      exact ⟨h1, h2.1.1, h2.1.2, Nat.le_of_ble_eq_true h2.2⟩
    · exact h3.all p h
theorem FreshOk.all {σ : Nat → Nat} {H : Hp} {H1 : List (Nat × Bx)} : ∀ {l : List (Nat × Bx)}, FreshOk σ H H1 l → ∀ p ∈ l, (match look p.1 H1 with | some b1 => kindBb b1 p.2 = true | none => H (σ p.1) = none)
  | [], _, p, h => by cases h
  | (c, bx) :: l, ⟨h1, h2⟩, p, h => by
    rcases List.mem_cons.1 h with rfl | h
    · exact h1
    · exact h2.all p h
def outW (σ : Nat → Nat) (H2 : List (Nat × Bx)) : List (Nat × Bx) := H2.map fun p => (σ p.1, renB σ p.2)
def outBlk (σ : Nat → Nat) (H2 : List (Nat × Bx)) (B B2 : Blk) : Blk := fun j => match H2.find? (fun p => Nat.beq (σ p.1) j) with | some p => B2 p.1 | none => B j
theorem updH_out {σ : Nat → Nat} {H : Hp} : ∀ {l : List (Nat × Bx)} (j : Nat), updH H (outW σ l) j = match l.find? (fun p => Nat.beq (σ p.1) j) with | some p => some (renB σ p.2) | none => H j
  | [], j => rfl
  | p :: l, j => by
    simp only [outW, List.map_cons, updH, upd, List.find?_cons]
    by_cases h : j = σ p.1
    · subst h; simp
    · have hb : Nat.beq (σ p.1) j = false := by
        cases hb : Nat.beq (σ p.1) j
        · rfl
        · exact absurd (Nat.eq_of_beq_eq_true hb).symm h
      rw [if_neg h, hb]
      exact updH_out j
section
variable {E : Env} {B B2 : Blk} {H : Hp} {w : World} {σ : Nat → Nat} {H1 H2 : List (Nat × Bx)}
theorem names_of (h : NamesOk σ H H1 H1) (hi : nodupB (H1.map fun p => σ p.1) = true) : Names σ H (hL H1) := by
  refine ⟨fun c bx hc => ?_, fun c c' h1 h2 e => ?_, fun c hc => ?_⟩
  · obtain ⟨k1, k2, k3, _⟩ := h.all _ (look_mem hc)
    exact ⟨k1, k2, k3⟩
  · cases e1 : hL H1 c with
    | none => rw [e1] at h1; cases h1
    | some b1 =>
      cases e2 : hL H1 c' with
      | none => rw [e2] at h2; cases h2
      | some b2 => exact congrArg Prod.fst (nodup_look hi _ (look_mem e1) _ (look_mem e2) e)
  · cases e1 : hL H1 c with
    | none => rfl
    | some b1 => have := (h.all _ (look_mem e1)).2.2.2; simp only at this; omega
theorem find_look (ho : OutB σ H1 H2 = true) (j : Nat) : (∃ c bx, look c H2 = some bx ∧ σ c = j ∧ H2.find? (fun p => Nat.beq (σ p.1) j) = some (c, bx)) ∨ ((∀ c, (look c H2).isSome = true → σ c ≠ j) ∧ H2.find? (fun p => Nat.beq (σ p.1) j) = none) := by
  simp only [OutB, Bool.and_eq_true] at ho
  cases hf : H2.find? (fun p => Nat.beq (σ p.1) j) with
  | none =>
    refine .inr ⟨fun c hc e => ?_, rfl⟩
    cases e1 : look c H2 with
    | none => rw [e1] at hc; cases hc
    | some b1 =>
      have := List.find?_eq_none.1 hf _ (look_mem e1)
      simp [e] at this
  | some p =>
    have hm := List.mem_of_find?_eq_some hf
    have hp := List.find?_some hf
    have hj : σ p.1 = j := Nat.eq_of_beq_eq_true hp
    refine .inl ⟨p.1, p.2, ?_, hj, rfl⟩
    cases e1 : look p.1 H2 with
    | none =>
      exfalso
      have : ∀ {l : List (Nat × Bx)} {p : Nat × Bx}, p ∈ l → look p.1 l ≠ none := by
        intro l
        induction l with
        | nil => intro p h; cases h
        | cons q l ih =>
          intro p h
          obtain ⟨q1, q2⟩ := q
          simp only [look]
          cases hb : Nat.beq q1 p.1
          · rcases List.mem_cons.1 h with rfl | h
            · simp at hb
            · simpa using ih h
          · simp
      exact this hm e1
    | some b1 =>
      have := nodup_look ho.2 _ (look_mem e1) _ hm rfl
      rw [← this]
theorem outs_of (hn : NamesOk σ H H1 H1) (hf : FreshOk σ H H1 H2) (ho : OutB σ H1 H2 = true) (hi : nodupB (H1.map fun p => σ p.1) = true) : Outs σ H (hL H1) (hL H2) (updH H (outW σ H2)) B B2 (outBlk σ H2 B B2) := by
  have ho' := ho
  simp only [OutB, Bool.and_eq_true, List.all_eq_true] at ho'
  obtain ⟨⟨o1, o2⟩, o3⟩ := ho'
  have fr := hf.all
  have inj : ∀ c c', (hL H2 c).isSome = true → (hL H2 c').isSome = true → σ c = σ c' → c = c' := fun c c' h1 h2 e => by
    cases e1 : hL H2 c with
    | none => rw [e1] at h1; cases h1
    | some b1 =>
      cases e2 : hL H2 c' with
      | none => rw [e2] at h2; cases h2
      | some b2 => exact congrArg Prod.fst (nodup_look o3 _ (look_mem e1) _ (look_mem e2) e)
  refine ⟨names_of hn hi, fun c bx h1 => ?_, fun c h1 h2 => ?_, inj, fun c bx h1 => ?_, fun j hj => ?_⟩
  · have h2 := o2 _ (look_mem h1)
    cases e2 : look c H2 with
    | none => simp [e2] at h2
    | some b2 =>
      have h3 := fr _ (look_mem e2)
      have h1' : look c H1 = some bx := h1
      simp only [h1'] at h3
      exact ⟨b2, e2, kindBb_ok h3⟩
  · cases e2 : hL H2 c with
    | none => rw [e2] at h1; cases h1
    | some b2 =>
      have h3 := fr _ (look_mem e2)
      have h2' : look c H1 = none := h2
      simp only [h2'] at h3
      exact h3
  · rw [updH_out]
    rcases find_look ho (σ c) with ⟨c', bx', k1, k2, k3⟩ | ⟨k1, _⟩
    · have := inj c' c (by show (look c' H2).isSome = true; rw [k1]; rfl) (by rw [h1]; rfl) k2
      subst this
      have h1' : look c' H2 = some bx := h1
      rw [h1'] at k1; injection k1 with k1; subst k1
      have := o1 _ (look_mem h1)
      simp only at this
      refine ⟨by rw [k3], by simp only [outBlk, k3], this.1, fun g hg => this.2 g hg⟩
    · exact absurd rfl (k1 c (by have h1' : look c H2 = some bx := h1; rw [h1']; rfl))
  · rw [updH_out]
    rcases find_look ho j with ⟨c', bx', k1, k2, k3⟩ | ⟨k1, k2⟩
    · exact absurd k2 (hj c' (by show (look c' H2).isSome = true; rw [k1]; rfl))
    · exact ⟨by rw [k2], by simp only [outBlk, k2]⟩
end
/-- x of the caller's may be handed in as y -/
def WkG (σ : Nat → Nat) (H1 : List (Nat × Bx)) (x y : AV) : Prop := (x = renA σ y ∧ (namesA y).all (fun g => (look g H1).isSome) = true) ∨ (dataA y = true ∧ ∀ H, Wk H x y)
inductive WkGL (σ : Nat → Nat) (H1 : List (Nat × Bx)) : List AV → List AV → Prop
  | nil : WkGL σ H1 [] []
  | cons {x y : AV} {xs ys : List AV} (h : WkG σ H1 x y) (t : WkGL σ H1 xs ys) : WkGL σ H1 (x :: xs) (y :: ys)
mutual
theorem ren_data (σ : Nat → Nat) : ∀ (x : AV), dataA x = true → renA σ x = x ∧ namesA x = []
  | .v x, _ => ⟨rfl, rfl⟩
  | .agg n fs, h => by obtain ⟨h1, h2⟩ := ren_dataL σ fs (by simpa [dataA] using h); simp [renA, namesA, h1, h2]
  | .arr m n xs, _ => ⟨rfl, rfl⟩
  | .ptr _ _ _, h => by simp [dataA] at h
  | .ref x, _ => ⟨rfl, rfl⟩
  | .sl none n xs, _ => ⟨rfl, rfl⟩
  | .sl (some t) n xs, h => by simp [dataA] at h
  | .seg _ _ _ _ _ _, h => by simp [dataA] at h
  | .tup vs, h => by obtain ⟨h1, h2⟩ := ren_dataL σ vs (by simpa [dataA] using h); simp [renA, namesA, h1, h2]
  | .fn f a b, h => by
    simp only [dataA, Bool.and_eq_true] at h
    obtain ⟨h1, h2⟩ := ren_dataL σ a h.1
    obtain ⟨h3, h4⟩ := ren_dataL σ b h.2
    simp [renA, namesA, h1, h2, h3, h4]
  | .ifc t x, h => by obtain ⟨h1, h2⟩ := ren_data σ x (by simpa [dataA] using h); simp [renA, namesA, h1, h2]
  | .own _ _ _ _, h => by simp [dataA] at h
theorem ren_dataL (σ : Nat → Nat) : ∀ (xs : List AV), dataL xs = true → renL σ xs = xs ∧ namesL xs = []
  | [], _ => ⟨rfl, rfl⟩
  | x :: xs, h => by
    simp only [dataL, Bool.and_eq_true] at h
    obtain ⟨h1, h2⟩ := ren_data σ x h.1
    obtain ⟨h3, h4⟩ := ren_dataL σ xs h.2
    simp [renL, namesL, h1, h2, h3, h4]
end
theorem WkGL.rdp {σ : Nat → Nat} {H1 : List (Nat × Bx)} {U : Uns} {w : World} {B : Blk} {H : Hp} {xs ys : List AV} (h : WkGL σ H1 xs ys) {vs : List Value} (hr : Rdp U w xs B H vs) : Rdp U w (renL σ ys) B H vs ∧ ∀ g ∈ namesL ys, (hL H1 g).isSome = true := by
  induction h generalizing vs with
  | nil => exact ⟨by simpa [Rdp, renL] using hr, by simp [namesL]⟩
  | cons hx _ ih =>
    simp only [Rdp] at hr
    obtain ⟨c, vs', e, k1, k2⟩ := hr
    obtain ⟨i1, i2⟩ := ih k2
    simp only [renL, namesL, Rdp, List.mem_append]
    rcases hx with ⟨rfl, h2⟩ | ⟨h1, h2⟩
    · rw [List.all_eq_true] at h2
      exact ⟨⟨c, vs', e, k1, i1⟩, fun g hg => hg.elim (h2 g) (i2 g)⟩
    · obtain ⟨q1, q2⟩ := ren_data σ _ h1
      obtain ⟨k3, k4⟩ := h2 H _ _ _ _ k1
      rw [q1, q2]
      exact ⟨⟨c, vs', by rw [e, k4], Rd_free _ k3, i1⟩, fun g hg => hg.elim (fun h => by cases h) (i2 g)⟩
section
variable {P : Program} {E : Env} {nt : Nat} {ops : Array Oper} {T : Nat → Option AV} {H : Hp} {d : Option Nat} {ty : TypeId} {pos : String} {af : Array Edge} {gd : Option (Nat × Bool)}
/-- the call itself: boxes handed in and out -/
theorem call_boxes {B : Blk} {w : World} {σ : Nat → Nat} {H1 H2 : List (Nat × Bx)} {f : FuncId} {ys : List AV} {y : AV} {vs : List Value} {X : Env → Prop} (m : Mem E B H w) (hc : CFnX P X f ys H1 y H2) (hX : ∀ lo, X (subE E B H w σ (hL H1) lo)) (hv : Rdp (unst E B H) w (renL σ ys) B H vs) (hys : ∀ g ∈ namesL ys, (hL H1 g).isSome = true)
    (hn : NamesOk σ H H1 H1) (hf : FreshOk σ H H1 H2) (ho : OutB σ H1 H2 = true) (hi : nodupB (H1.map fun p => σ p.1) = true) (hy : (namesA y).all (fun g => (look g H2).isSome) = true) :
    Calls P f vs.toArray w fun e w' => ∃ v B', e = .returned v ∧ Mem E B' (updH H (outW σ H2)) w' ∧ Rdv (unst E B' (updH H (outW σ H2))) w' B' (updH H (outW σ H2)) (renA σ y) v ∧
      ∀ x v, Rdv (unst E B H) w B H x v → Rdv (unst E B' (updH H (outW σ H2))) w' B' (updH H (outW σ H2)) x v := by
  have hN := names_of hn hi
  have h1 : Rdp (unst (subE E B H w σ (hL H1) hN.lo) (subB σ B (hL H1)) (hL H1)) w ys (subB σ B (hL H1)) (hL H1) vs := by
    rw [sub_unst m hN]
    exact (Rdp_ren ys (fun g hg => names_cor hN (hys g hg))).1 hv
  refine Calls.mono (hc _ _ w vs (hX _) rfl (m.enter hN) h1) ?_
  rintro e w' ⟨v, B2, rfl, h2, h3⟩
  have o : Outs σ H (hL H1) (hL H2) (updH H (outW σ H2)) B B2 (outBlk σ H2 B B2) := outs_of hn hf ho hi
  rw [List.all_eq_true] at hy
  exact ⟨v, _, rfl, Mem.leave m o h2, outs_rd2 m o h2 hy h3, fun x v hx => outs_rd1 m o h2 hx⟩
theorem ok_ccall {f : FuncId} {fn : Func} {x : Operand} {l : List Operand} {ats : Array TypeId} {caps xs ys : List AV} {y : AV} {H1 H2 : List (Nat × Bx)} (σ : Nat → Nat) (hc : CFn P f ys H1 y H2) (hd : dOk nt d = true) (hf : P.funcs[f]? = some fn) (hb : fn.body.isSome = true) (hnm : (fn.name == "runtime.NumGoroutine") = false)
    (hxf : evalO T x = some (.fn (.func f) [] caps)) (hx : l.map (evalO T) = xs.map some) (hnt : xs.all notTup = true) (hw : WkGL σ H1 (xs ++ caps) ys)
    (hn : NamesOk σ H H1 H1) (hfr : FreshOk σ H H1 H2) (ho : OutB σ H1 H2 = true) (hi : nodupB (H1.map fun p => σ p.1) = true) (hy : (namesA y).all (fun g => (look g H2).isSome) = true) :
    OpOK P E nt ops ⟨d, .call { callee := .value x, args := l.toArray, argTypes := ats }, ty, pos, af, gd⟩ T H ((H1.map fun p => σ p.1)) ⟨renA σ y, outW σ H2⟩ := by
  intro T' H' ht hrh hwr B a w r K Q hK
  have hag : ∀ p ∈ H1, H' (σ p.1) = H (σ p.1) := fun p hp => hrh _ (List.mem_map.2 ⟨p, hp, rfl⟩)
  have hn' : NamesOk σ H' H1 H1 := by
    have : ∀ l : List (Nat × Bx), (∀ p ∈ l, H' (σ p.1) = H (σ p.1)) → NamesOk σ H H1 l → NamesOk σ H' H1 l := by
      intro l
      induction l with
      | nil => exact fun _ _ => trivial
      | cons p l ih =>
        obtain ⟨c, bx⟩ := p
        intro h1 ⟨h2, h3, h4⟩
        exact ⟨(h1 (c, bx) List.mem_cons_self).trans h2, h3, ih (fun p hp => h1 p (List.mem_cons_of_mem _ hp)) h4⟩
    exact this H1 hag hn
  have hfr' : FreshOk σ H' H1 H2 := by
    have : ∀ l : List (Nat × Bx), (∀ p ∈ l, H' (σ p.1) = H (σ p.1)) → FreshOk σ H H1 l → FreshOk σ H' H1 l := by
      intro l
      induction l with
      | nil => exact fun _ _ => trivial
      | cons p l ih =>
        obtain ⟨c, bx⟩ := p
        intro h1 ⟨h2, h3⟩
        refine ⟨?_, ih (fun p hp => h1 p (List.mem_cons_of_mem _ hp)) h3⟩
        cases hl : look c H1 with
        | some b1 => rw [hl] at h2; exact h2
        | none => rw [hl] at h2; exact (h1 (c, bx) List.mem_cons_self).trans h2
    exact this H2 (fun p hp => hwr (σ p.1, renB σ p.2) (List.mem_map.2 ⟨p, hp, rfl⟩)) hfr
  have hxs := args_rdp r l xs (map_agree hx (fun y hy => agree_op ht (by simp [Op.operands, Call.operands]; exact .inr hy))) (fun z hz => notTup_ne (List.all_eq_true.1 hnt z hz))
  have hfv := Rdv_one (by simp) (r.eval ((agree_op ht (x := x) (by simp [Op.operands, Call.operands])).trans hxf)) rfl
  simp only [Rd] at hfv
  obtain ⟨c1, c2, e1, e2, e3⟩ := hfv
  simp only [Rdp] at e2
  subst e2
  injection e1 with e1
  obtain ⟨k1, k2⟩ := hw.rdp (Rdp_append hxs e3)
  have h2 := call_boxes r.mem hc (fun _ => trivial) k1 k2 hn' hfr' ho hi hy
  unfold Oper.wp
  have he : (execOp a.eval ⟨d, .call { callee := .value x, args := l.toArray, argTypes := ats }, ty, pos, af, gd⟩).run P w = .ok (.enter f (l.map a.eval ++ c2).toArray) w := by
    have hb' : fn.body ≠ none := by cases h : fn.body <;> simp_all
    have hn' : fn.name ≠ "runtime.NumGoroutine" := by simpa using hnm
    have ha : (l.map a.eval ++ c2).toArray = (l.toArray.map a.eval) ++ c2.toArray := by apply Array.ext'; simp
    rw [ha]
    simp [execOp, resolve, Deferred.ofValue, e1, invoke, callFunc, hf, hn', hb']
  rw [he]
  refine Calls.mono h2 ?_
  rintro e w' ⟨v, B', rfl, h3, h4, h5⟩
  refine hK B' _ w' ((h3.rel r.nt r.df fun s z hs => ?_).put hd h4)
  obtain ⟨v0, q1, q2⟩ := r.tmp s z hs
  exact ⟨v0, q1, h5 _ _ q2⟩
end
/-- names for a call's boxes -/
def sg (l : List (Nat × Nat)) : Nat → Nat := fun c => match look c l with | some d => d | none => c
section
variable {P : Program} {E : Env} {nt : Nat} {ops : Array Oper} {l : List Oper} {T : List (Nat × AV)} {H : List (Nat × Bx)} {rs : List Rec} {K : St → List Rec → Prop} {op : Op} {ty : TypeId} {pos : String} {af : Array Edge} {gd : Option (Nat × Bool)} {d : Nat} {rh : List Nat}
theorem Wc {v : AV} {wr : List (Nat × Bx)} (hok : OpOK P E nt ops ⟨some d, op, ty, pos, af, gd⟩ (St.t ⟨T, H⟩) (St.h ⟨T, H⟩) rh ⟨v, wr⟩) (hw : wantedA ops ⟨some d, op, ty, pos, af, gd⟩ (St.t ⟨T, H⟩) = some true)
    (h : AWops P E nt ops l ⟨(d, v) :: T, wr ++ H⟩ (rs ++ [⟨rh, wr.map (·.1)⟩]) K) : AWops P E nt ops (⟨some d, op, ty, pos, af, gd⟩ :: l) ⟨T, H⟩ rs K := ⟨⟨T, H⟩, ⟨rfl, rfl⟩, .inl ⟨hw, rh, _, hok, h⟩⟩
theorem Wc0 {v : AV} {wr : List (Nat × Bx)} (hok : OpOK P E nt ops ⟨none, op, ty, pos, af, gd⟩ (St.t ⟨T, H⟩) (St.h ⟨T, H⟩) rh ⟨v, wr⟩) (hw : wantedA ops ⟨none, op, ty, pos, af, gd⟩ (St.t ⟨T, H⟩) = some true)
    (h : AWops P E nt ops l ⟨T, wr ++ H⟩ (rs ++ [⟨rh, wr.map (·.1)⟩]) K) : AWops P E nt ops (⟨none, op, ty, pos, af, gd⟩ :: l) ⟨T, H⟩ rs K := ⟨⟨T, H⟩, ⟨rfl, rfl⟩, .inl ⟨hw, rh, _, hok, h⟩⟩
/-- a contract over boxes with what a call of it wants -/
def CCall (f : FuncId) (args : List AV) (H1 : List (Nat × Bx)) (r : AV) (H2 : List (Nat × Bx)) : Prop := ∃ fn, Try.prog.funcs[f]? = some fn ∧ fn.body.isSome = true ∧ (fn.name == "runtime.NumGoroutine") = false ∧ CFn Try.prog f args H1 r H2
theorem ccall {f : FuncId} {fn : Func} {args : List AV} {H1 H2 : List (Nat × Bx)} {r : AV} (hf : Try.prog.funcs[f]? = some fn) (hc : CFn Try.prog f args H1 r H2) (hb : fn.body.isSome = true) (hn : (fn.name == "runtime.NumGoroutine") = false) : CCall f args H1 r H2 := ⟨fn, hf, hb, hn, hc⟩
end
section
variable {E : Env} {nt : Nat} {ops : Array Oper} {T : Nat → Option AV} {H : Hp} {d : Option Nat} {ty : TypeId} {pos : String} {af : Array Edge} {gd : Option (Nat × Bool)}
theorem o_ccall {f : FuncId} {x : Operand} {l : List Operand} {ats : Array TypeId} {caps xs ys : List AV} {y : AV} {H1 H2 : List (Nat × Bx)} (s : List (Nat × Nat)) (hc : CCall f ys H1 y H2) (hd : dOk nt d = true)
    (hxf : evalO T x = some (.fn (.func f) [] caps)) (hx : argsA T l = some xs) (hnt : xs.all notTup = true) (hw : WkGL (sg s) H1 (xs ++ caps) ys)
    (hn : NamesOk (sg s) H H1 H1) (hfr : FreshOk (sg s) H H1 H2) (ho : OutB (sg s) H1 H2 = true) (hi : nodupB (H1.map fun p => sg s p.1) = true) (hy : (namesA y).all (fun g => (look g H2).isSome) = true) :
    OpOK Try.prog E nt ops ⟨d, .call { callee := .value x, args := l.toArray, argTypes := ats }, ty, pos, af, gd⟩ T H ((H1.map fun p => sg s p.1)) ⟨renA (sg s) y, outW (sg s) H2⟩ := by
  obtain ⟨fn, h1, h2, h3, h4⟩ := hc
  exact ok_ccall (sg s) h4 hd h1 h2 h3 hxf (argsA_map hx) hnt hw hn hfr ho hi hy
end
end Go.Proofs.Ytofcabhahdecdaa

namespace Go.Proofs.Ytofcabhahdecdaa
open Go Go.RowKit
set_option linter.unusedVariables false
set_option linter.unusedSimpArgs false
set_option maxRecDepth 100000

/-! ### plain law -/
def keyOf (s : ByteArray) : Key × Int := if s.size ≤ 8 then (mkKey (bitsOf s), 0) else (Key.zero, 2)
def vlOf (s : ByteArray) : Vl × Int := if s.size ≤ 16 then (mkVl (bitsOf s), 0) else (Vl.zero, 2)
def large (o : Opn) : Bool := decide (8 < o.key.size) || (decide (o.kind = 1) && decide (16 < o.val.size))
theorem key_zero_ok : Key.zero.ok = true := by
  rw [Key.ok_iff]
  exact ⟨by decide, by decide, by decide⟩
theorem keyOf_ok (s : ByteArray) : (keyOf s).1.ok = true := by
  unfold keyOf
  split
  · exact mkKey_ok _ (by rw [bitsOf_length]; assumption)
  · exact key_zero_ok
theorem vlOf_ok (s : ByteArray) : (vlOf s).1.ok = true := by
  unfold vlOf
  split
  · exact mkVl_ok _ (by rw [bitsOf_length]; assumption)
  · exact Vl.zero_ok
/-- the message that an operation is -/
def msgOf (o : Opn) : Msg := ⟨o.kind, 0#64, (keyOf o.key).1, if o.kind = 1 then (vlOf o.val).1 else Vl.zero, if o.kind = 3 then o.add else 0#64⟩
/-- what an operation does -/
def mdDo (l : List Ent) (o : Opn) : List Ent × Ans :=
  if large o then (l, ⟨2, false, Vl.zero⟩) else
  if o.kind = 4 then (l, ⟨0, (opA (lfGet (keyOf o.key).1 l)).2, (opA (lfGet (keyOf o.key).1 l)).1⟩) else
  if o.kind < 1 ∨ 4 < o.kind then (l, ⟨1, false, Vl.zero⟩) else (lfPut l (msgOf o), ⟨0, false, Vl.zero⟩)
theorem res_yesm {P : Program} {S : St} {t : Nat} {p : Prop} [Decidable p] (hx : S.t t = some (.v (.bool (decide p)))) (hp : p) : Res1 P S (.tmp t) (boolA true) := res_of (by rw [hx, decide_eq_true hp]; rfl) rfl rfl
theorem res_nom {P : Program} {S : St} {t : Nat} {p : Prop} [Decidable p] (hx : S.t t = some (.v (.bool (decide p)))) (hp : ¬ p) : Res1 P S (.tmp t) (boolA false) := res_of (by rw [hx, decide_eq_false hp]; rfl) rfl rfl
theorem wM {Q R : Prop} (k : R) (h : Hid R → Q := by intro kHid; (repeat (first | (first | refine Wend _ ?_ | refine AW_seq ?_ | refine AW_reg ?_ | refine AW_drw mixed ?_ | refine AW_block ?_ | refine AW_scope ?_ | refine thenA_n ?_ | refine blockA_n ?_ | refine blockA_h ?_ | refine scopeA_n ?_ | refine thenA_r ?_ | refine blockA_r ?_ | refine scopeA_r ?_ | refine thenA_e ?_ | refine scopeA_e ?_ | refine blockA_e rfl ?_ | refine AW_exit ?_ | refine AW_ret ?_ | refine AW_skip ?_ | refine AW_c rfl ?_ | with_reducible refine cb_t ?_ | with_reducible refine cb_f ?_ | with_reducible refine cb_yes (by first | assumption | omega) ?_ | with_reducible refine cb_no (by first | assumption | omega) ?_ | refine And.intro (by decide +kernel) ?_) | (first | (apply Wv; (focus (first | exact step_ok rfl rfl | exact o_idx rfl rfl rfl rfl (by first | assumption | omega | decide) | exact o_idx3 rfl rfl rfl rfl (by first | assumption | omega | decide) | exact o_idx2 rfl rfl rfl rfl rfl (by first | assumption | omega | decide) | exact o_idxr rfl rfl rfl rfl rfl rfl | exact o_lenm rfl rfl rfl | exact o_len rfl rfl rfl | exact o_len0 rfl rfl rfl | exact o_lens rfl rfl rfl | exact o_lent rfl rfl | exact o_add1 rfl rfl rfl (by omega) | exact o_addn rfl rfl rfl (by omega) | exact o_add rfl rfl rfl (by omega) | exact o_sub1 rfl rfl rfl (by omega) | exact o_sub rfl rfl rfl (by omega) | exact o_mul rfl rfl rfl (by omega) | exact o_rem rfl rfl rfl (by omega) | exact ok_rem rfl rfl rfl (by decide) rfl | exact o_eqKey rfl rfl rfl | exact o_neKey rfl rfl rfl | exact o_eqVl rfl rfl rfl | exact o_neVl rfl rfl rfl | exact o_eqEnt rfl rfl rfl | exact o_neEnt rfl rfl rfl | exact o_eqMsg rfl rfl rfl | exact o_neMsg rfl rfl rfl | exact o_acall rfl rfl rfl rfl (by assumption) | exact o_minn rfl rfl rfl | exact o_cutl rfl rfl rfl rfl (by omega) | exact o_cuth rfl rfl rfl rfl (by omega) | exact o_cutl3 rfl rfl rfl rfl (by omega) | exact o_cuth3 rfl rfl rfl rfl (by omega) | exact o_cutl2 rfl rfl rfl rfl rfl (by omega) | exact o_cuth2 rfl rfl rfl rfl rfl (by omega) | exact o_cutlh2 rfl rfl rfl rfl rfl rfl rfl (by omega) (by omega) | exact o_bld zero_Opn rfl rfl rfl rfl rfl rfl rfl | exact o_bld zero_Ans rfl rfl rfl rfl rfl rfl rfl | exact o_eqAns rfl rfl rfl | exact o_neAns rfl rfl rfl | exact e_bld rfl rfl rfl | exact e_bldk rfl rfl | exact z_bld0 rfl rfl rfl rfl rfl | exact z_bld rfl rfl rfl rfl rfl rfl rfl | exact o_addu rfl rfl rfl | exact z_blda rfl rfl rfl rfl rfl rfl rfl rfl rfl | exact o_idxa rfl rfl rfl rfl rfl rfl | exact o_idxra rfl rfl rfl rfl rfl rfl rfl | exact o_quo2 rfl rfl rfl (by omega) | exact o_quo rfl rfl rfl (by omega))); (focus (first | exact want_n | exact want_g rfl (by with_reducible rfl)))) | (apply Wb; (focus (first | exact o_box rfl rfl rfl rfl | exact o_app rfl rfl rfl rfl rfl (by first | exact o_many rfl | exact o_one _ _ rfl) (by first | omega | (simp; omega) | simp) (by first | omega | (simp; omega) | simp) | exact o_appn rfl rfl rfl rfl rfl (by first | exact o_many rfl | exact o_one _ _ rfl) (by first | omega | (simp; omega) | simp) (by first | omega | (simp; omega) | simp) | exact o_app1 rfl rfl rfl rfl rfl (by first | exact o_many rfl | exact o_one _ _ rfl) (by exact rfl) (by first | omega | (simp; omega) | simp) (by first | omega | (simp; omega) | simp) | exact o_app0 rfl rfl rfl rfl rfl (by first | exact o_many rfl | exact o_one _ _ rfl) (by first | omega | (simp; omega) | simp) (by first | omega | (simp; omega) | simp) | exact o_bsl0 rfl rfl rfl | exact z_bsll rfl rfl rfl rfl rfl rfl rfl rfl rfl | exact z_alloc rfl rfl rfl | exact o_alloc zero_Opn rfl rfl | exact o_alloc zero_Ans rfl rfl | exact o_bsll zero_Ans rfl rfl rfl rfl rfl rfl rfl rfl | exact o_bsll zero_Opn rfl rfl rfl rfl rfl rfl rfl rfl)); (focus (first | exact want_n | exact want_g rfl (by with_reducible rfl)))) | (apply Ws; (focus (exact ok_store tabT (d := none) rfl rfl rfl rfl rfl rfl rfl rfl rfl rfl)); (focus (first | exact want_n | exact want_g rfl (by with_reducible rfl)))) | (refine Wskip (by first | exact want_f rfl (by with_reducible exact b_nt) | exact want_f rfl (by with_reducible exact b_nf) | exact want_t rfl) rfl ?_) | refine Wgt rfl rfl (by first | assumption | omega | exact rfl) ?_ | refine Wgf rfl rfl (by first | assumption | omega | exact rfl) ?_ | (refine Wgb rfl rfl (by with_reducible assumption) ?_) | (refine cb_is _ (by assumption) ?_)))); exact kHid.out) : Q := h ⟨k⟩
/-! ### bytes copied into an array -/
theorem bytesAV_bits (s : ByteArray) : bytesAV s = (bitsOf s).map byteA := by
  unfold bytesAV bitsOf
  rw [List.map_map]
  refine List.map_congr_left fun b _ => ?_
  simp only [Function.comp, byteA, B8_def]
  rfl
theorem over_list {m : Nat} (b : Vector (BitVec 8) m) (ys : List (BitVec 8)) (h : ys.length ≤ m) : (over b ys).toList = ys ++ b.toList.drop ys.length := by
  apply List.ext_getElem
  · simp; omega
  · intro i h1 h2
    have hi : i < m := by simpa using h1
    rw [Vector.getElem_toList, over_get b ys i hi]
    by_cases c : i < ys.length
    · rw [List.getElem_append_left c, List.getElem?_eq_getElem c]; rfl
    · rw [List.getElem_append_right (by omega), List.getElem?_eq_none (by omega)]
      simp [show ys.length + (i - ys.length) = i by omega]
section
variable {E : Env} {nt : Nat} {ops : Array Oper} {T : Nat → Option AV} {H : Hp} {d : Option Nat} {ty : TypeId} {pos : String} {af : Array Edge} {gd : Option (Nat × Bool)}
theorem o_cutarr {t e : TypeId} {tn len es : Nat} {ea : Bool} {x : Operand} {g off : Nat} {p : List Nat} (hd : dOk nt d = true) (hs : tabT.ti t = some (.arr tn (len + 1) es ea e)) (hx : evalO T x = some (.ptr g off p)) (hl : Nat.blt len 9223372036854775807 = true) :
    OpOK Try.prog E nt ops ⟨d, .slice t x none none none, ty, pos, af, gd⟩ T H [] ⟨.seg g off es p (len + 1) (len + 1), []⟩ :=
  ok_cut_arr tabT hd hs hx (show BndA T none (len + 1) (len + 1) from rfl) (Nat.le_refl _) (by simpa using hl)
theorem o_cpbytes {x y : Operand} {t tx e : TypeId} {bytes : Nat} {ea : Bool} {g off cap m : Nat} {p : List Nat} {z z' src : AV} {b : Vector (BitVec 8) m} {ys : List (BitVec 8)} (hd : dOk nt d = true) (hs : tabT.ti t = some (.sl e 1 bytes ea)) (hx : evalO T x = some (.seg g off 1 p m cap)) (hy : evalO T y = some src) (hsrc : SrcNOf Try.prog 1 src (ys.map byteA))
    (hg : H g = some (.var z)) (hp : subA p z = some (vecA b)) (ho : offA p z = off) (hz : setA (vecA (over b ys)) p z = some z') (hle : ys.length ≤ m) :
    OpOK Try.prog E nt ops ⟨d, .call { callee := .builtin .copy, args := #[x, y], argTypes := #[t, tx] }, ty, pos, af, gd⟩ T H [g] ⟨.v (.int .i64 (ys.length : Nat)), [(g, .var z')]⟩ := by
  have hmin : min (ys.map byteA).length m = ys.length := by rw [List.length_map]; omega
  have h := ok_copy tabT (E := E) (nt := nt) (ops := ops) (T := T) (H := H) (d := d) (ty := ty) (pos := pos) (af := af) (gd := gd) (x := x) (y := y) (t := t) (tx := tx) (g := g) (off := off) (len := m) (cap := cap) (m := m) (p := p) (z := z) (z' := z') (src := src) (xs := b.toList.map byteA) (ys := ys.map byteA) hd hs hx hy hsrc hg hp ho (by simp) (by
    rw [hmin]
    rw [← hz, vecA, over_list b ys hle, List.map_append, List.map_drop]
    rw [List.take_of_length_le (by simp)])
  rw [hmin] at h
  exact h
theorem o_cpstr {x y : Operand} {t tx e : TypeId} {bytes : Nat} {ea : Bool} {g off cap m : Nat} {p : List Nat} {z z' : AV} {b : Vector (BitVec 8) m} {s : ByteArray} (hd : dOk nt d = true) (hs : tabT.ti t = some (.sl e 1 bytes ea)) (hx : evalO T x = some (.seg g off 1 p m cap)) (hy : evalO T y = some (.v (.string s)))
    (hg : H g = some (.var z)) (hp : subA p z = some (vecA b)) (ho : offA p z = off) (hz : setA (vecA (over b (bitsOf s))) p z = some z') (hle : s.size ≤ m) :
    OpOK Try.prog E nt ops ⟨d, .call { callee := .builtin .copy, args := #[x, y], argTypes := #[t, tx] }, ty, pos, af, gd⟩ T H [g] ⟨.v (.int .i64 (s.size : Nat)), [(g, .var z')]⟩ := by
  have h := o_cpbytes (E := E) (nt := nt) (ops := ops) (ty := ty) (pos := pos) (af := af) (gd := gd) (tx := tx) hd hs hx hy (by rw [← bytesAV_bits]; exact srcn_str) hg hp ho hz (by rw [bitsOf_length]; exact hle)
  rw [bitsOf_length] at h
  exact h
end
section
variable {E : Env} {nt : Nat} {ops : Array Oper} {T : Nat → Option AV} {H : Hp} {d : Option Nat} {ty : TypeId} {pos : String} {af : Array Edge} {gd : Option (Nat × Bool)}
/-- a text's bytes, in a row of their own that nobody writes -/
theorem o_convt {s t e : TypeId} {x : Operand} {l : ByteArray} (hs : Try.prog.underlying s = some .string) (ht : Try.prog.underlying t = some (.slice e)) (he : Try.prog.underlying e = some (.int .u8)) (hd : dOk nt d = true) (hx : evalO T x = some (.v (.string l))) (hl : l.size ≤ maxLen) :
    OpOK Try.prog E nt ops ⟨d, .convert s t x, ty, pos, af, gd⟩ T H [] ⟨.sl none 1 ((bitsOf l).map byteA), []⟩ :=
  ok_eff hd fun B T' H' a w r hto hh hw => by
    have hxv := r.evalv ((hto x (by simp [Op.operands])).trans hx)
    have hcv := run_bytes_of_string (P := Try.prog) w s t e l hs ht he
    have hcap := grownCap_ge w l.size 0 e
    have hcap2 := grownCap_le_maxLen w l.size 0 e hl
    have r1 : Rel E nt B T' H' a (w.drew.alloc (.cells (bytesRow l (grownCap w l.size 0 e)) e ((bytesRow l (grownCap w l.size 0 e)).size, (bytesRow l (grownCap w l.size 0 e)).size + 1))) := r.drew.ext ((Ext.refl _).alloc _)
    refine ⟨_, _, B, by simp only [execOp, hxv, Sem.run_bind, hcv]; rfl, r1, ?_⟩
    have hlen : ((bitsOf l).map byteA).length = l.size := by rw [List.length_map, bitsOf_length]
    rw [Rdv_not (by simp)]
    refine ⟨[.slice (some ⟨w.heap.size, 0, none⟩) l.size (grownCap w l.size 0 e)], ?_, rfl⟩
    simp only [Rd]
    refine ⟨some ⟨w.heap.size, 0, none⟩, grownCap w l.size 0 e, by rw [hlen], by rw [hlen]; exact hcap, hcap2, fun _ => ?_, fun t ht => (by cases ht)⟩
    have hnew : (w.drew.alloc (.cells (bytesRow l (grownCap w l.size 0 e)) e ((bytesRow l (grownCap w l.size 0 e)).size, (bytesRow l (grownCap w l.size 0 e)).size + 1))).heap[w.heap.size]? = some (.cells (bytesRow l (grownCap w l.size 0 e)) e ((bytesRow l (grownCap w l.size 0 e)).size, (bytesRow l (grownCap w l.size 0 e)).size + 1)) := heap_alloc_new _ _
    refine ⟨w.heap.size, 0, (bitsOf l).map (fun x => Value.int .u8 (B8 x)), rfl, ?_, fun o _ _ hu => ?_, (rdu_bytes _).2 rfl⟩
    · rw [row_block hnew]
      unfold rowOf
      rw [hlen, if_pos (by simp [bytesRow])]
      congr 1
      apply Array.ext'
      simp only [bytesRow, Nat.mul_one, Nat.zero_add]
      have hb : bitsOf l = l.data.toList.map (·.toBitVec) := rfl
      rw [hb, List.map_map]
      have hsz : l.size = l.data.toList.length := rfl
      rw [Array.toList_extract, List.extract_eq_take_drop]
      simp only [Array.toList_append, Array.toList_map, Array.toList_replicate, Nat.sub_zero, List.drop_zero]
      rw [List.take_append_of_le_length (by simp), List.take_of_length_le (by simp)]
      refine List.map_congr_left fun b _ => ?_
      simp only [Function.comp, B8_def]
      rfl
    · have := r.mem.unst_lt hu
      omega
end
/-! ### contracts -/
theorem a_vlof (xs : List (BitVec 8)) (h : xs.length ≤ 16) : AFn Try.prog 47 [.sl none 1 (xs.map byteA)] (mkVl xs).av := fun U w vs hr => by
  obtain ⟨v1, us, rfl, h1, hr⟩ := rdp_one hr
  obtain rfl := rdp_nil hr
  exact ofIs (vlof_any v1 xs w (sl_bytes_of h1) h) fun w' => dVl.rdv.2 rfl
theorem a_refvlofs (s : ByteArray) : AFn Try.prog 42 [strA s] (.tup [(vlOf s).1.av, intA (vlOf s).2]) := fun U w vs hr => by
  obtain ⟨v1, us, rfl, h1, hr⟩ := rdp_one hr
  obtain rfl := rdp_nil hr
  rw [(Rdv_v.1 h1).2, ← bytes_bits s]
  refine ofIs (refvlof_any (bitsOf s) w) fun w' => ?_
  rw [bytes_bits, Rdv_tup]
  have hl := bitsOf_length s
  unfold vlOf
  by_cases h : s.size ≤ 16
  · rw [if_pos (by omega), if_pos h]
    refine ⟨[.agg (mkVl (bitsOf s)).arr, .int .i64 0], rfl, ?_⟩
    simp only [Rdp]
    exact ⟨(mkVl (bitsOf s)).arr.toList, [.int .i64 0], rfl, Vl.rd.2 rfl, [.int .i64 0], [], rfl, (rd_v rfl).2 rfl, rfl⟩
  · rw [if_neg (by omega), if_neg h]
    refine ⟨[.agg Vl.zero.arr, .int .i64 2], rfl, ?_⟩
    simp only [Rdp]
    exact ⟨Vl.zero.arr.toList, [.int .i64 2], rfl, Vl.rd.2 rfl, [.int .i64 2], [], rfl, (rd_v rfl).2 rfl, rfl⟩
theorem a_refkeyofs (s : ByteArray) : AFn Try.prog 38 [strA s] (.tup [(keyOf s).1.av, intA (keyOf s).2]) := fun U w vs hr => by
  obtain ⟨v1, us, rfl, h1, hr⟩ := rdp_one hr
  obtain rfl := rdp_nil hr
  rw [(Rdv_v.1 h1).2, ← bytes_bits s]
  refine ofIs (refkeyof_any (bitsOf s) w) fun w' => ?_
  rw [bytes_bits, Rdv_tup]
  have hl := bitsOf_length s
  unfold keyOf
  by_cases h : s.size ≤ 8
  · rw [if_pos (by omega), if_pos h]
    refine ⟨[.agg (mkKey (bitsOf s)).arr, .int .i64 0], rfl, ?_⟩
    simp only [Rdp]
    exact ⟨(mkKey (bitsOf s)).arr.toList, [.int .i64 0], rfl, Key.rd.2 rfl, [.int .i64 0], [], rfl, (rd_v rfl).2 rfl, rfl⟩
  · rw [if_neg (by omega), if_neg h]
    refine ⟨[.agg Key.zero.arr, .int .i64 2], rfl, ?_⟩
    simp only [Rdp]
    exact ⟨Key.zero.arr.toList, [.int .i64 2], rfl, Key.rd.2 rfl, [.int .i64 2], [], rfl, (rd_v rfl).2 rfl, rfl⟩
attribute [local irreducible] OpOK AWops AW CondB Go2 AFn thenA inBlockA noGotoA orderOk wantedA
set_option maxRecDepth 100000 in
set_option maxHeartbeats 4000000 in
theorem a_keyofs (s : ByteArray) : AFn Try.prog 33 [strA s] (.tup [(keyOf s).1.av, intA (keyOf s).2]) := by
  refine AFn_intro Try.func33 rfl Try.ntmps33 rfl (by simp) [_, _] rfl fun E hE => ?_
  unfold keyOf
  by_cases h : s.size ≤ 8
  · have h' : ¬ (8 : Int) < (s.size : Nat) := by omega
    rw [if_pos h]
    refine wM ?_
    apply Wv; (focus (exact o_cutarr rfl rfl rfl rfl)); (focus (first | exact want_n | exact want_g rfl (by with_reducible rfl)))
    refine wM ?_
    apply Wb; (focus (exact o_cpstr (b := Key.zero.b) rfl rfl rfl rfl rfl rfl rfl rfl h)); (focus (first | exact want_n | exact want_g rfl (by with_reducible rfl)))
    refine wM ?_
    have e : (mkKey (bitsOf s)).av = .agg 9 [.v (.int .i64 s.size), vecA (over Key.zero.b (bitsOf s))] := by
      unfold mkKey Key.av
      rw [bitsOf_length, ← over_zero]
      rfl
    rw [e]
    exact fin ⟨res_var rfl rfl rfl rfl, res_of rfl rfl rfl, trivial⟩
  · have h' : (8 : Int) < (s.size : Nat) := by omega
    rw [if_neg h]
    refine wM ?_
    exact fin ⟨res_var rfl rfl rfl rfl, res_of rfl rfl rfl, trivial⟩
set_option maxRecDepth 100000 in
set_option maxHeartbeats 4000000 in
theorem a_vlofs (s : ByteArray) : AFn Try.prog 35 [strA s] (.tup [(vlOf s).1.av, intA (vlOf s).2]) := by
  refine AFn_intro Try.func35 rfl Try.ntmps35 rfl (by simp) [_, _] rfl fun E hE => ?_
  unfold vlOf
  by_cases h : s.size ≤ 16
  · have h' : ¬ (16 : Int) < (s.size : Nat) := by omega
    rw [if_pos h]
    have c0 := a_vlof (bitsOf s) (by rw [bitsOf_length]; exact h)
    have c1 := acall Try.func47 (c0) (by decide +kernel) (by decide +kernel)
    refine wM ?_
    apply Wv; (focus (exact o_convt Try.underlying9 Try.underlying77 Try.underlying5 rfl rfl (by unfold maxLen; omega))); (focus (first | exact want_n | exact want_g rfl (by with_reducible rfl)))
    refine wM ?_
    exact fin ⟨res_var rfl rfl rfl rfl, res_of rfl rfl rfl, trivial⟩
  · have h' : (16 : Int) < (s.size : Nat) := by omega
    rw [if_neg h]
    refine wM ?_
    exact fin ⟨res_var rfl rfl rfl rfl, res_of rfl rfl rfl, trivial⟩
set_option maxRecDepth 100000 in
set_option maxHeartbeats 4000000 in
theorem a_histlarge (o : Opn) : AFn Try.prog 32 [o.av] (boolA (large o)) := by
  refine AFn_intro Try.func32 rfl Try.ntmps32 rfl (by simp) [_] rfl fun E hE => ?_
  unfold large
  by_cases h : 8 < o.key.size
  · have h' : (8 : Int) < (o.key.size : Nat) := by omega
    rw [decide_eq_true h, Bool.true_or]
    refine wM ?_
    exact fin ⟨res_of rfl rfl rfl, trivial⟩
  · have h' : ¬ (8 : Int) < (o.key.size : Nat) := by omega
    rw [decide_eq_false h, Bool.false_or]
    by_cases k : o.kind = 1
    · rw [decide_eq_true k, Bool.true_and]
      by_cases q : 16 < o.val.size
      · have q' : (16 : Int) < (o.val.size : Nat) := by omega
        rw [decide_eq_true q]
        refine wM ?_
        exact fin ⟨res_yesm rfl q', trivial⟩
      · have q' : ¬ (16 : Int) < (o.val.size : Nat) := by omega
        rw [decide_eq_false q]
        refine wM ?_
        exact fin ⟨res_nom rfl q', trivial⟩
    · rw [decide_eq_false k, Bool.false_and]
      refine wM ?_
      exact fin ⟨res_of rfl rfl rfl, trivial⟩
set_option maxRecDepth 100000 in
set_option maxHeartbeats 4000000 in
theorem a_ref23large (o : Opn) : AFn Try.prog 17 [o.av] (boolA (large o)) := by
  refine AFn_intro Try.func17 rfl Try.ntmps17 rfl (by simp) [_] rfl fun E hE => ?_
  unfold large
  by_cases h : 8 < o.key.size
  · have h' : (8 : Int) < (o.key.size : Nat) := by omega
    rw [decide_eq_true h, Bool.true_or]
    refine wM ?_
    exact fin ⟨res_of rfl rfl rfl, trivial⟩
  · have h' : ¬ (8 : Int) < (o.key.size : Nat) := by omega
    rw [decide_eq_false h, Bool.false_or]
    by_cases k : o.kind = 1
    · rw [decide_eq_true k, Bool.true_and]
      by_cases q : 16 < o.val.size
      · have q' : (16 : Int) < (o.val.size : Nat) := by omega
        rw [decide_eq_true q]
        refine wM ?_
        exact fin ⟨res_yesm rfl q', trivial⟩
      · have q' : ¬ (16 : Int) < (o.val.size : Nat) := by omega
        rw [decide_eq_false q]
        refine wM ?_
        exact fin ⟨res_nom rfl q', trivial⟩
    · rw [decide_eq_false k, Bool.false_and]
      refine wM ?_
      exact fin ⟨res_of rfl rfl rfl, trivial⟩
end Go.Proofs.Ytofcabhahdecdaa

namespace Go.Proofs.Ytofcabhahdecdaa
open Go Go.RowKit
set_option linter.unusedVariables false
set_option linter.unusedSimpArgs false
set_option maxRecDepth 100000

def mdFind (l : List Ent) (s : ByteArray) : Vl × Bool := if s.size ≤ 8 then opA (lfGet (keyOf s).1 l) else (Vl.zero, false)
attribute [local irreducible] OpOK AWops AW CondB Go2 AFn thenA inBlockA noGotoA orderOk wantedA
set_option maxRecDepth 100000 in
set_option maxHeartbeats 4000000 in
theorem a_refdo (l : List Ent) (o : Opn) (h : Lf l) (hl : l.length ≤ 1000000000) : AFn Try.prog 22 [entsA l, o.av] (.tup [entsA (mdDo l o).1, (mdDo l o).2.av]) := by
  refine AFn_intro Try.func22 rfl Try.ntmps22 rfl (by simp) [_, _] rfl fun E hE => ?_
  have c1 := a_ref23large o
  unfold mdDo
  cases hL : large o with
  | true =>
    rw [hL] at c1
    have d1 := acall Try.func17 (c1) (by decide +kernel) (by decide +kernel)
    rw [if_pos rfl]
    refine wM ?_
    exact fin ⟨res_sl rfl, res_var rfl rfl rfl rfl, trivial⟩
  | false =>
  rw [hL] at c1
  have d1 := acall Try.func17 (c1) (by decide +kernel) (by decide +kernel)
  rw [if_neg (by simp)]
  have d2 := acall Try.func38 (a_refkeyofs o.key) (by decide +kernel) (by decide +kernel)
  by_cases k4 : o.kind = 4
  · rw [if_pos k4]
    have d3 := acall Try.func41 (a_ref07find l (keyOf o.key).1 h.srt hl) (by decide +kernel) (by decide +kernel)
    have n1 : ¬ o.kind = 1 := by omega
    have n3 : ¬ o.kind = 3 := by omega
    have n2 : ¬ o.kind = 2 := by omega
    refine wM ?_
    exact fin ⟨res_sl rfl, res_var rfl rfl rfl rfl, trivial⟩
  rw [if_neg k4]
  by_cases kr : o.kind < 1 ∨ 4 < o.kind
  · rw [if_pos kr]
    have n1 : ¬ o.kind = 1 := by omega
    have n3 : ¬ o.kind = 3 := by omega
    have n2 : ¬ o.kind = 2 := by omega
    by_cases kl : o.kind < 1
    · refine wM ?_
      exact fin ⟨res_sl rfl, res_var rfl rfl rfl rfl, trivial⟩
    · have kg : 4 < o.kind := by omega
      refine wM ?_
      exact fin ⟨res_sl rfl, res_var rfl rfl rfl rfl, trivial⟩
  rw [if_neg kr]
  have q1 : ¬ o.kind < 1 := by omega
  have q2 : ¬ 4 < o.kind := by omega
  have d4 := acall Try.func26 (a_ref07put l (msgOf o) h (keyOf_ok _) hl) (by decide +kernel) (by decide +kernel)
  by_cases k1 : o.kind = 1
  · have e1 : (msgOf o).av = .agg 29 [intA o.kind, u64A 0#64, (keyOf o.key).1.av, (vlOf o.val).1.av, u64A 0#64] := by
      unfold msgOf Msg.av
      rw [if_pos k1, if_neg (by omega)]
    have d5 := acall Try.func42 (a_refvlofs o.val) (by decide +kernel) (by decide +kernel)
    rw [e1] at d4
    have n3 : ¬ o.kind = 3 := by omega
    refine wM ?_
    exact fin ⟨res_sl rfl, res_var rfl rfl rfl rfl, trivial⟩
  by_cases k3 : o.kind = 3
  · have e1 : (msgOf o).av = .agg 29 [intA o.kind, u64A 0#64, (keyOf o.key).1.av, Vl.zero.av, u64A o.add] := by
      unfold msgOf Msg.av
      rw [if_neg k1, if_pos k3]
    rw [e1] at d4
    refine wM ?_
    exact fin ⟨res_sl rfl, res_var rfl rfl rfl rfl, trivial⟩
  have k2 : o.kind = 2 := by omega
  have e1 : (msgOf o).av = .agg 29 [intA o.kind, u64A 0#64, (keyOf o.key).1.av, Vl.zero.av, u64A 0#64] := by
    unfold msgOf Msg.av
    rw [if_neg k1, if_neg k3]
  rw [e1] at d4
  refine wM ?_
  exact fin ⟨res_sl rfl, res_var rfl rfl rfl rfl, trivial⟩
set_option maxRecDepth 100000 in
set_option maxHeartbeats 4000000 in
theorem a_mdo (l : List Ent) (o : Opn) (h : Lf l) (hl : l.length ≤ 1000000000) : AFn Try.prog 16 [entsA l, o.av] (.tup [entsA (mdDo l o).1, (mdDo l o).2.av]) := by
  refine AFn_intro Try.func16 rfl Try.ntmps16 rfl (by simp) [_, _] rfl fun E hE => ?_
  have c1 := a_histlarge o
  unfold mdDo
  cases hL : large o with
  | true =>
    rw [hL] at c1
    have d1 := acall Try.func32 (c1) (by decide +kernel) (by decide +kernel)
    rw [if_pos rfl]
    refine wM ?_
    exact fin ⟨res_sl rfl, res_var rfl rfl rfl rfl, trivial⟩
  | false =>
  rw [hL] at c1
  have d1 := acall Try.func32 (c1) (by decide +kernel) (by decide +kernel)
  rw [if_neg (by simp)]
  have d2 := acall Try.func33 (a_keyofs o.key) (by decide +kernel) (by decide +kernel)
  by_cases k4 : o.kind = 4
  · rw [if_pos k4]
    have d3 := acall Try.func34 (a_leaffind l (keyOf o.key).1 h.srt hl) (by decide +kernel) (by decide +kernel)
    have n1 : ¬ o.kind = 1 := by omega
    have n3 : ¬ o.kind = 3 := by omega
    have n2 : ¬ o.kind = 2 := by omega
    refine wM ?_
    exact fin ⟨res_sl rfl, res_var rfl rfl rfl rfl, trivial⟩
  rw [if_neg k4]
  by_cases kr : o.kind < 1 ∨ 4 < o.kind
  · rw [if_pos kr]
    have n1 : ¬ o.kind = 1 := by omega
    have n3 : ¬ o.kind = 3 := by omega
    have n2 : ¬ o.kind = 2 := by omega
    refine wM ?_
    exact fin ⟨res_sl rfl, res_var rfl rfl rfl rfl, trivial⟩
  rw [if_neg kr]
  have q1 : ¬ o.kind < 1 := by omega
  have q2 : ¬ 4 < o.kind := by omega
  have hk : 1 ≤ (msgOf o).kind ∧ (msgOf o).kind ≤ 3 := by show 1 ≤ o.kind ∧ o.kind ≤ 3; omega
  have d4 := acall Try.func36 (a_leafput l (msgOf o) h (keyOf_ok _) hk hl) (by decide +kernel) (by decide +kernel)
  by_cases k1 : o.kind = 1
  · have e1 : (msgOf o).av = .agg 29 [intA o.kind, u64A 0#64, (keyOf o.key).1.av, (vlOf o.val).1.av, u64A 0#64] := by
      unfold msgOf Msg.av
      rw [if_pos k1, if_neg (by omega)]
    have d5 := acall Try.func35 (a_vlofs o.val) (by decide +kernel) (by decide +kernel)
    rw [e1] at d4
    have n3 : ¬ o.kind = 3 := by omega
    refine wM ?_
    exact fin ⟨res_sl rfl, res_var rfl rfl rfl rfl, trivial⟩
  by_cases k3 : o.kind = 3
  · have e1 : (msgOf o).av = .agg 29 [intA o.kind, u64A 0#64, (keyOf o.key).1.av, Vl.zero.av, u64A o.add] := by
      unfold msgOf Msg.av
      rw [if_neg k1, if_pos k3]
    rw [e1] at d4
    refine wM ?_
    exact fin ⟨res_sl rfl, res_var rfl rfl rfl rfl, trivial⟩
  have k2 : o.kind = 2 := by omega
  have e1 : (msgOf o).av = .agg 29 [intA o.kind, u64A 0#64, (keyOf o.key).1.av, Vl.zero.av, u64A 0#64] := by
    unfold msgOf Msg.av
    rw [if_neg k1, if_neg k3]
  rw [e1] at d4
  refine wM ?_
  exact fin ⟨res_sl rfl, res_var rfl rfl rfl rfl, trivial⟩
set_option maxRecDepth 100000 in
set_option maxHeartbeats 4000000 in
theorem a_reffind24 (l : List Ent) (s : ByteArray) (h : Lf l) (hl : l.length ≤ 1000000000) : AFn Try.prog 24 [entsA l, strA s] (.tup [(mdFind l s).1.av, boolA (mdFind l s).2]) := by
  refine AFn_intro Try.func24 rfl Try.ntmps24 rfl (by simp) [_, _] rfl fun E hE => ?_
  have c1 := a_refkeyofs s
  unfold mdFind
  by_cases k : s.size ≤ 8
  · have e : (keyOf s).2 = 0 := by unfold keyOf; rw [if_pos k]
    rw [e] at c1
    have d1 := acall Try.func38 (c1) (by decide +kernel) (by decide +kernel)
    have d2 := acall Try.func41 (a_ref07find l (keyOf s).1 h.srt hl) (by decide +kernel) (by decide +kernel)
    rw [if_pos k]
    refine wM ?_
    exact fin ⟨res_var rfl rfl rfl rfl, res_of rfl rfl rfl, trivial⟩
  · have e : (keyOf s).2 = 2 := by unfold keyOf; rw [if_neg k]
    rw [e] at c1
    have d1 := acall Try.func38 (c1) (by decide +kernel) (by decide +kernel)
    rw [if_neg k]
    refine wM ?_
    exact fin ⟨res_var rfl rfl rfl rfl, res_of rfl rfl rfl, trivial⟩
set_option maxRecDepth 100000 in
set_option maxHeartbeats 4000000 in
theorem a_mfind (l : List Ent) (s : ByteArray) (h : Lf l) (hl : l.length ≤ 1000000000) : AFn Try.prog 23 [entsA l, strA s] (.tup [(mdFind l s).1.av, boolA (mdFind l s).2]) := by
  refine AFn_intro Try.func23 rfl Try.ntmps23 rfl (by simp) [_, _] rfl fun E hE => ?_
  have c1 := a_keyofs s
  unfold mdFind
  by_cases k : s.size ≤ 8
  · have e : (keyOf s).2 = 0 := by unfold keyOf; rw [if_pos k]
    rw [e] at c1
    have d1 := acall Try.func33 (c1) (by decide +kernel) (by decide +kernel)
    have d2 := acall Try.func34 (a_leaffind l (keyOf s).1 h.srt hl) (by decide +kernel) (by decide +kernel)
    rw [if_pos k]
    refine wM ?_
    exact fin ⟨res_var rfl rfl rfl rfl, res_of rfl rfl rfl, trivial⟩
  · have e : (keyOf s).2 = 2 := by unfold keyOf; rw [if_neg k]
    rw [e] at c1
    have d1 := acall Try.func33 (c1) (by decide +kernel) (by decide +kernel)
    rw [if_neg k]
    refine wM ?_
    exact fin ⟨res_var rfl rfl rfl rfl, res_of rfl rfl rfl, trivial⟩
end Go.Proofs.Ytofcabhahdecdaa

namespace Go.Proofs.Ytofcabhahdecdaa
open Go Go.RowKit
set_option linter.unusedVariables false
set_option linter.unusedSimpArgs false
set_option maxRecDepth 100000
set_option linter.unusedSectionVars false

mutual
theorem ren_id : ∀ (x : AV), renA (fun c => c) x = x
  | .v x => rfl
  | .agg n fs => by simp only [renA, ren_idL fs]
  | .arr m n xs => rfl
  | .ptr _ _ _ => rfl
  | .ref x => rfl
  | .sl none n xs => rfl
  | .sl (some t) n xs => rfl
  | .seg _ _ _ _ _ _ => rfl
  | .tup vs => by simp only [renA, ren_idL vs]
  | .fn f a b => by simp only [renA, ren_idL a, ren_idL b]
  | .ifc t x => by simp only [renA, ren_id x]
  | .own _ _ _ _ => rfl
theorem ren_idL : ∀ (xs : List AV), renL (fun c => c) xs = xs
  | [] => rfl
  | x :: xs => by simp only [renL, ren_id x, ren_idL xs]
end
theorem renB_id (bx : Bx) : renB (fun c => c) bx = bx := by cases bx <;> simp only [renB, ren_id]
/-- a live box's block is of cells -/
theorem Mem.cells {E : Env} {B : Blk} {H : Hp} {w : World} (m : Mem E B H w) {g b : Nat} {bx : Bx} (h : H g = some bx) (hl : liveB bx = true) (hb : B g = some b) : ∃ cs t fr, w.heap[b]? = some (.cells cs t fr) := by
  have h1 := m.box g bx h
  cases bx with
  | var x => obtain ⟨b', cs, t, k1, k2, _⟩ := h1; rw [hb] at k1; injection k1 with k1; subst k1; exact ⟨_, _, _, k2⟩
  | froz x => cases hl
  | tail e n k =>
    rcases h1.2.2 with ⟨k1, _⟩ | ⟨b', cur, cap, k1, k2, _⟩
    · rw [hb] at k1; cases k1
    · rw [hb] at k1; injection k1 with k1; subst k1; exact ⟨_, _, _, k2⟩
  | own e n xs =>
    rcases h1.2.2 with ⟨k1, _⟩ | ⟨b', cur, cap, c, k1, k2, _⟩
    · rw [hb] at k1; cases k1
    · rw [hb] at k1; injection k1 with k1; subst k1; exact ⟨_, _, _, k2⟩
def noCells (w : World) (l : Nat) : Prop := ∀ cs t fr, w.heap[l]? ≠ some (.cells cs t fr)
theorem noCells_loop {w : World} {l : Nat} {r : Loop} (h : w.heap[l]? = some (.loop r)) : noCells w l := fun cs t fr e => by rw [h] at e; cases e
theorem noCells_def {w : World} {l : Nat} {r : Option (List Deferred)} (h : w.heap[l]? = some (.deferred r)) : noCells w l := fun cs t fr e => by rw [h] at e; cases e
/-- worlds that differ at one block that is no cells -/
structure Twin (l : Nat) (w w' : World) : Prop where
  size : w'.heap.size = w.heap.size
  heap : ∀ k, k ≠ l → w'.heap[k]? = w.heap[k]?
  no : noCells w l
  no' : noCells w' l
  os : w'.os = w.os
  tape : w'.tape = w.tape
  output : w'.output = w.output
theorem Twin.symm {l : Nat} {w w' : World} (t : Twin l w w') : Twin l w' w := ⟨t.size.symm, fun k hk => (t.heap k hk).symm, t.no', t.no, t.os.symm, t.tape.symm, t.output.symm⟩
theorem Twin.put {l : Nat} {w : World} {o o' : Obj} (h : w.heap[l]? = some o) (hc : ∀ cs t fr, o ≠ .cells cs t fr) (hc' : ∀ cs t fr, o' ≠ .cells cs t fr) : Twin l w (w.putObj l o') :=
  ⟨World.putObj_size, fun k hk => World.putObj_heap_other hk, fun cs t fr e => by rw [h] at e; injection e with e; exact hc _ _ _ e, fun cs t fr e => by
    rw [World.putObj_heap_same (Array.getElem?_eq_some_iff.1 h).1] at e; injection e with e; exact hc' _ _ _ e, rfl, rfl, rfl⟩
theorem Twin.refl {l : Nat} {w : World} (h : noCells w l) : Twin l w w := ⟨rfl, fun _ _ => rfl, h, h, rfl, rfl, rfl⟩
theorem Twin.cells {l : Nat} {w w' : World} (t : Twin l w w') {b : Nat} {cs : Array Value} {ty : TypeId} {fr : Nat × Nat} (h : w.heap[b]? = some (.cells cs ty fr)) : w'.heap[b]? = some (.cells cs ty fr) := by
  rw [t.heap b (fun e => by subst e; exact t.no _ _ _ h)]; exact h
theorem Twin.evo {l : Nat} {w w' : World} (t : Twin l w w') (U : Uns) : Evo U w w' := ⟨Nat.le_of_eq t.size.symm, fun b cs ty fr h => ⟨cs, t.cells h, rfl, fun _ _ => rfl⟩⟩
theorem Mem.swap {E E' : Env} {B : Blk} {H : Hp} {w w' : World} {l : Nat} (hX : E'.X = E.X) (heb : E'.eb = E.eb) (t0 : Twin l E.w0 E'.w0 ∨ E'.w0 = E.w0) (t : Twin l w w') (hl : l < E'.w0.heap.size → ¬ E'.ent l → w'.heap[l]? = E'.w0.heap[l]?) (m : Mem E B H w) :
    Mem E' B H w' ∧ ∀ x v, Rdv (unst E B H) w B H x v → Rdv (unst E' B H) w' B H x v := by
  have hs : E'.w0.heap.size = E.w0.heap.size := by rcases t0 with t0 | t0; exact t0.size; rw [t0]
  have hent : ∀ b, E'.ent b ↔ E.ent b := fun b => by unfold Env.ent; rw [heb]
  have hun : unst E' B H = unst E B H := by
    funext b o
    unfold unst
    rw [hs, hX]
    simp only [hent]
  have hmine : ∀ b o, Mine E b o → Mine E' b o := fun b o h => by unfold Mine at h ⊢; rw [hs, hX]; simpa only [hent] using h
  have htie : ∀ g k b, Tie E g k b → Tie E' g k b := fun g k b h => by unfold Tie at h ⊢; rw [heb]; exact h
  have p : Pic w w' B B H H := ⟨fun _ _ _ h => h, fun _ h => h, fun t0 n len A cap h => by
    obtain ⟨ty, k, h1, h2, h3⟩ := h
    refine ⟨ty, k, h1, h2, fun hk => ⟨(h3 hk).1, fun b hb => ?_⟩⟩
    obtain ⟨h4, cur, h5, h6⟩ := (h3 hk).2 b hb
    exact ⟨h4, cur, t.cells h5, h6⟩, ownPic (t.evo (fun _ _ => False)) (fun _ _ _ _ h => ⟨h, rfl⟩)⟩
  have rd : ∀ (x : AV) {c : List Value}, Rd (unst E B H) w x B H c → Rd (unst E' B H) w' x B H c := fun x c h => by rw [hun]; exact Rd_go (t.evo _) (fun _ _ _ h => h) x p h
  have rdv : ∀ x v, Rdv (unst E B H) w B H x v → Rdv (unst E' B H) w' B H x v := fun x v h => by rw [hun]; exact Rdv_go (t.evo _) (fun _ _ _ h => h) p h
  refine ⟨⟨fun g bx h => ?_, m.non, m.inj, ⟨?_, ?_, ?_, ?_, fun k hk he => ?_, ?_⟩, fun g hg => by rw [heb]; exact m.keep g hg⟩, rdv⟩
  · have hb := m.box g bx h
    cases bx with
    | var x =>
      obtain ⟨b, cs, ty, h1, h2, h3, h4, h5⟩ := hb
      exact ⟨b, cs, ty, h1, t.cells h2, rd x h3, hmine _ _ h4, htie _ _ _ h5⟩
    | froz x =>
      obtain ⟨b, cs, h1, h2, h3, h4⟩ := hb
      exact ⟨b, cs, h1, (t.evo (unst E B H)).row h2 h3, by rw [hun]; exact h3, rd x h4⟩
    | tail ty n k =>
      obtain ⟨h0, hT, h1⟩ := hb
      refine ⟨h0, htie _ _ _ hT, h1.imp id ?_⟩
      rintro ⟨b, cur, cap, k1, k2, k3, k4, k5, k6⟩
      exact ⟨b, cur, cap, k1, t.cells k2, k3, k4, k5, hmine _ _ k6⟩
    | own ty n xs =>
      obtain ⟨h0, hT, h1⟩ := hb
      refine ⟨h0, htie _ _ _ hT, h1.imp id ?_⟩
      rintro ⟨b, cur, cap, c, k1, k2, k3, k4, k5, k6, k7, k8⟩
      exact ⟨b, cur, cap, c, k1, t.cells k2, k3, k4, k5, k6, by rw [hun]; exact Rdu_go (t.evo _) (fun _ _ _ h => h) n xs (Pic.refl0 _ _) k7, hmine _ _ k8⟩
  · rw [t.os, m.left.os]; rcases t0 with t0 | t0; exact t0.os.symm; rw [t0]
  · rw [t.tape, m.left.tape]; rcases t0 with t0 | t0; exact t0.tape.symm; rw [t0]
  · rw [t.output, m.left.output]; rcases t0 with t0 | t0; exact t0.output.symm; rw [t0]
  · rw [t.size, hs]; exact m.left.size
  · by_cases hkl : k = l
    · subst hkl; exact hl hk he
    · rw [t.heap k hkl, m.left.block k (hs ▸ hk) (fun h => he ((hent k).2 h))]
      rcases t0 with t0 | t0
      · exact (t0.heap k hkl).symm
      · rw [t0]
  · rw [hX]
    refine Evo.trans ?_ (m.left.evo.trans (t.evo _))
    rcases t0 with t0 | t0
    · exact t0.symm.evo _
    · rw [t0]; exact Evo.refl _ _

/-! ### the rounds -/
def recOf (fn : FuncId) (tm : Array Value) (ps : Array Tmp) (assign body : Code) (D : Nat) : Loop := { state := .ready, pending := none, fn, tmps := tm, params := ps, assign, body, defers := D }
/-- a call of yield, handed args, with the boxes H1 in hand: it hands back r, and leaves the boxes H2; some boxes' blocks are known -/
def YFn (P : Program) (l : Nat) (rc : Loop) (bs : List (Nat × Nat)) (args : List AV) (H1 : List (Nat × Bx)) (r : AV) (H2 : List (Nat × Bx)) : Prop :=
  ∀ (n : Nat) (E : Env) (B : Blk) (w : World) (vs : List Value), E.df = [] → E.w0 = w → ¬ E.ent l → Mem E B (hL H1) w → (∀ p ∈ bs, B p.1 = some p.2) → w.heap[l]? = some (.loop rc) → Rdp (unst E B (hL H1)) w args B (hL H1) vs →
    ∃ fn tmps assign body, (Instr.yield l vs.toArray).run P w = .ok (.round l fn tmps assign body) w ∧ RoundIn Fence.wide n P l fn tmps assign body w fun e w' => ∃ v B2, e = .returned v ∧ Mem E B2 (hL H2) w' ∧ Rdv (unst E B2 (hL H2)) w' B2 (hL H2) r v
section
variable {F : Fence} {n : Nat} {P : Program} {E : Env} {nt : Nat} {S : St} {Q : Exit → St → Prop}
theorem AWR_block {id : Nat} {c : Code} (h : AWR F n P E nt c S (inBlockA id Q)) : AWR F n P E nt (.block id c) S Q := fun B a w r =>
  wpIn_block (wpIn_mono (h B a w r) fun e a w ⟨B', S', h1, h2⟩ => by
    cases e with
    | exit id' =>
      simp only [inBlockA] at h2
      simp only [Exit.inBlock]
      split
      · rename_i he; rw [if_pos he] at h2; exact ⟨B', S', h1, h2⟩
      · rename_i he; rw [if_neg he] at h2; exact ⟨B', S', h1, h2⟩
    | normal => exact ⟨B', S', h1, h2⟩
    | outgrown => exact ⟨B', S', h1, h2⟩
    | goto l => exact ⟨B', S', h1, h2⟩
    | ret => exact ⟨B', S', h1, h2⟩
    | panic c => exact ⟨B', S', h1, h2⟩)
end
theorem AWR_reg {F : Fence} {n : Nat} {P : Program} {E : Env} {nt : Nat} {S : St} {Q : Exit → St → Prop} {id : Nat} {l : List Oper} (hF : F.plain = Fence.wide) (hd : l.all noDefer = true) (h : AWops P E nt l.toArray l S [] (fun S' _ => Q .normal S')) : AWR F n P E nt (.region id l.toArray false) S Q := AWR_region hF (by simpa using hd) (by simpa using h)
/-- the held slots: pointers to variables whose blocks are known -/
def bsOf (gs : List (Nat × Nat)) (bk : Nat → Nat) : List (Nat × Nat) := gs.map fun p => (p.2, bk p.2)
def ptrsOf (gs : List (Nat × Nat)) : List (Nat × AV) := gs.map fun p => (p.1, .ptr p.2 0 [])
def HeldOk (gs : List (Nat × Nat)) (bk : Nat → Nat) (tm : Array Value) : Prop := ∀ p ∈ gs, tm[p.1]? = some (.pointer (some ⟨bk p.2, 0, none⟩))
theorem YFn_intro {P : Program} {l : Nat} {fn : FuncId} {tm : Array Value} {p1 p2 : Tmp} {assign body : Code} {D nt : Nat} {gs : List (Nat × Nat)} {bk : Nat → Nat} {x1 x2 : AV} {H1 Ha Hb H2 : List (Nat × Bx)} {Ta : List (Nat × AV)}
    (hnt : tm.size = nt) (hp1 : p1 < nt) (hp2 : p2 < nt) (hp : p1 ≠ p2) (ht : HeldOk gs bk tm) (hgs : gs.all (fun p => !Nat.beq p.1 p1 && !Nat.beq p.1 p2 && isVar (look p.2 H1)) = true)
    (h1 : ∀ F n E, F.plain = Fence.wide → AWR F n P E nt assign ⟨(p1, x1) :: (p2, x2) :: ptrsOf gs, H1⟩ (fun e S' => e = .normal ∧ Sub S' ⟨Ta, Ha⟩))
    (hn : NamesOk (fun c => c) (hL Ha) Ha Ha) (hi : nodupB (Ha.map fun p => p.1) = true) (hta : ∀ p ∈ Ta, (namesA p.2).all (fun g => (look g Ha).isSome) = true)
    (h2 : ∀ F n E, F.plain = Fence.wide → AWR F n P E nt body ⟨Ta, Ha⟩ (fun e S' => e = .normal ∧ LeaveOk S'.H Hb))
    (hf : FreshOk (fun c => c) (hL Ha) Ha Hb) (ho : OutB (fun c => c) Ha Hb = true) (hh : SubH Hb H2 H2) (hk : (H1.all fun p => (look p.1 H2).isSome) = true) :
    YFn P l (recOf fn tm #[p1, p2] assign body D) (bsOf gs bk) [x1, x2] H1 (.v (.bool true)) H2 := by
  intro n E B w vs hdf hw0 hne m hbs hl hvs
  have hlt : l < w.heap.size := (Array.getElem?_eq_some_iff.1 hl).1
  obtain ⟨v1, us, rfl, q1, hvs'⟩ : ∃ v us, vs = v :: us ∧ Rdv (unst E B (hL H1)) w B (hL H1) x1 v ∧ Rdp (unst E B (hL H1)) w [x2] B (hL H1) us := by
    simp only [Rdp] at hvs ⊢
    obtain ⟨c, us, rfl, k1, k2⟩ := hvs
    exact ⟨_, us, rfl, by rw [Rdv_not (Rd_notup k1)]; exact ⟨c, k1, rfl⟩, k2⟩
  obtain ⟨v2, rfl, q2⟩ : ∃ v, us = [v] ∧ Rdv (unst E B (hL H1)) w B (hL H1) x2 v := by
    simp only [Rdp] at hvs'
    obtain ⟨c, us, rfl, k1, rfl⟩ := hvs'
    exact ⟨_, rfl, by rw [Rdv_not (Rd_notup k1)]; exact ⟨c, k1, rfl⟩⟩
  have hy := run_yield (P := P) (args := [v1, v2].toArray) hl rfl
  refine ⟨fn, _, assign, body, hy, ?_⟩
  have etm : ((recOf fn tm #[p1, p2] assign body D).params.zip [v1, v2].toArray).foldl (fun tmps (t, a) => tmps.setIfInBounds t a) (recOf fn tm #[p1, p2] assign body D).tmps = (tm.setIfInBounds p1 v1).setIfInBounds p2 v2 := by simp [recOf]
  rw [etm]
  refine roundIn_of_wpIn trivial ?_
  have r0 : Rel E nt B (St.t ⟨(p1, x1) :: (p2, x2) :: ptrsOf gs, H1⟩) (St.h ⟨(p1, x1) :: (p2, x2) :: ptrsOf gs, H1⟩) { tmps := (tm.setIfInBounds p1 v1).setIfInBounds p2 v2, defers := [] } w := by
    refine m.rel (by simp [hnt]) hdf.symm fun s x hs => ?_
    have e1 : St.t ⟨(p1, x1) :: (p2, x2) :: ptrsOf gs, H1⟩ = upd (upd (fun k => look k (ptrsOf gs)) p2 x2) p1 x1 := by
      show (fun k => look k ((p1, x1) :: (p2, x2) :: ptrsOf gs)) = _
      rw [look_cons, look_cons]
    rw [e1] at hs
    simp only [upd] at hs
    by_cases c1 : s = p1
    · subst c1
      simp at hs; subst hs
      exact ⟨v1, by simp [Array.getElem?_setIfInBounds, Ne.symm hp, hnt, hp1], q1⟩
    rw [if_neg c1] at hs
    by_cases c2 : s = p2
    · subst c2
      simp at hs; subst hs
      exact ⟨v2, by simp [Array.getElem?_setIfInBounds, hnt, hp2], q2⟩
    rw [if_neg c2] at hs
    obtain ⟨⟨s', g⟩, k1, k2⟩ := List.mem_map.1 (look_mem hs)
    simp only [Prod.mk.injEq] at k2
    obtain ⟨rfl, rfl⟩ := k2
    have k4 := ht _ k1
    rw [List.all_eq_true] at hgs
    have k5 := hgs _ k1
    simp only [Bool.and_eq_true, Bool.not_eq_true'] at k5
    refine ⟨_, by rw [Array.getElem?_setIfInBounds_ne (Ne.symm c2), Array.getElem?_setIfInBounds_ne (Ne.symm c1)]; exact k4, ?_⟩
    rw [Rdv_not (by simp)]
    exact ⟨[_], by simp only [Rd]; exact ⟨k5.2, _, hbs (g, bk g) (List.mem_map.2 ⟨_, k1, rfl⟩), rfl⟩, rfl⟩
  have hpl : (Fence.wide.inRound l).plain = Fence.wide := rfl
  refine wpIn_mono (h1 _ _ E hpl B _ w r0) ?_
  rintro e a1 w1 ⟨B1, S1, r1, rfl, hs1⟩
  obtain ⟨B1', r1'⟩ := hs1.rel r1
  have hl1 : w1.heap[l]? = some (.loop (recOf fn tm #[p1, p2] assign body D)) := by
    rw [r1'.left.block l (by rw [hw0]; exact hlt) hne, hw0]; exact hl
  have hlt1 : l < w1.heap.size := (Array.getElem?_eq_some_iff.1 hl1).1
  have hN := names_of hn hi
  have m1 := r1'.mem
  have tw : Twin l w1 (w1.putObj l (.loop { recOf fn tm #[p1, p2] assign body D with state := .busy })) := Twin.put hl1 (by intros; simp) (by intros; simp)
  have hne1 : ¬ (subE E B1' (hL Ha) w1 (fun c => c) (hL Ha) hN.lo).ent l := fun h => by
    obtain ⟨c, bx, k1, k2⟩ := (subE_ent hN).1 h
    obtain ⟨_, k3, _⟩ := hN.is c bx k1
    obtain ⟨cs, t, fr, k4⟩ := m1.cells k1 k3 k2
    exact noCells_loop hl1 _ _ _ k4
  let E1 := subE E B1' (hL Ha) w1 (fun c => c) (hL Ha) hN.lo
  let w2 := w1.putObj l (.loop { recOf fn tm #[p1, p2] assign body D with state := .busy })
  let E2 : Env := { E1 with w0 := w2 }
  obtain ⟨m2, rd2⟩ := Mem.swap (E := E1) (E' := E2) (l := l) rfl rfl (.inl tw) tw (fun _ _ => rfl) (m1.enter hN)
  refine ⟨w2, run_beginRound hl1 rfl, ?_⟩
  have r2 : Rel E2 nt (subB (fun c => c) B1' (hL Ha)) (St.t ⟨Ta, Ha⟩) (St.h ⟨Ta, Ha⟩) a1 w2 := by
    refine m2.rel r1'.nt (r1'.df.trans hdf) fun s x hs => ?_
    obtain ⟨v, k1, k2⟩ := r1'.tmp s x hs
    refine ⟨v, k1, rd2 x v ?_⟩
    have h3 := hta _ (look_mem hs)
    rw [List.all_eq_true] at h3
    exact m1.enter_rd hN (fun g hg => h3 g hg) (by rw [ren_id]; exact k2)
  refine wpIn_mono (h2 _ _ E2 hpl _ _ w2 r2) ?_
  rintro e a3 w3 ⟨B3, S3, r3, rfl, hlv⟩
  have m3 := (hlv.mem r3.mem).1
  have hl3 : w3.heap[l]? = some (.loop { recOf fn tm #[p1, p2] assign body D with state := .busy }) := by
    rw [r3.left.block l (by show l < w2.heap.size; rw [tw.size]; exact hlt1) hne1]
    exact World.putObj_heap_same hlt1
  have hlt3 : l < w3.heap.size := (Array.getElem?_eq_some_iff.1 hl3).1
  refine ⟨_, _, run_endRound none hl3, ?_⟩
  have tw3 : Twin l w3 (w3.putObj l (.loop (recOf fn tm #[p1, p2] assign body D))) := Twin.put hl3 (by intros; simp) (by intros; simp)
  obtain ⟨m4, _⟩ := Mem.swap (E := E2) (E' := E1) (l := l) rfl rfl (.inl tw.symm) tw3 (fun _ _ => (World.putObj_heap_same hlt3).trans hl1.symm) m3
  have o : Outs (fun c => c) (hL Ha) (hL Ha) (hL Hb) (updH (hL Ha) (outW (fun c => c) Hb)) B1' (dropB B3 (hL Hb)) (outBlk (fun c => c) Hb B1' (dropB B3 (hL Hb))) := outs_of hn hf ho hi
  have m5 := Mem.leave m1 o m4
  refine ⟨.bool true, _, rfl, (m5.drop (H' := hL H2) (fun g bx hg => ?_) fun g hg => ?_).1, by rw [Rdv_v]; exact ⟨rfl, rfl⟩⟩
  · obtain ⟨k1, k2⟩ := hh.all _ (look_mem hg)
    rw [List.all_eq_true] at k2
    refine ⟨?_, fun j hj => k2 j hj⟩
    have := (o.is g bx k1).1
    rw [renB_id] at this
    exact this
  · refine m.keep g ?_
    cases hh : hL H1 g with
    | none => rfl
    | some bx =>
      rw [List.all_eq_true] at hk
      have := hk _ (look_mem hh)
      rw [show look g H2 = none from hg] at this; cases this
/-! ### past a call of yield -/
section
variable {F : Fence} {n : Nat} {P : Program} {E : Env} {nt : Nat} {ops : Array Oper} {Q : Exit → Act → World → Prop} {K : St → List Rec → Prop}
theorem ops_in2 (hF : F.plain = Fence.wide) (hd : ops.toList.all noDefer = true) (rest : List Nat) (l' : List Oper)
    (hK : ∀ S rs, K S rs → ∀ B a w, Rel E nt B S.t S.h a w → wpOpsIn F n P ops Q rest a w) :
    ∀ (l : List Oper) (i : Nat) (S : St) (rs : List Rec) (B : Blk) (a : Act) (w : World), ops.toList.drop i = l ++ l' → AWops P E nt ops l S rs K → Rel E nt B S.t S.h a w → wpOpsIn F n P ops Q (List.range' i l.length ++ rest) a w
  | [], i, S, rs, B, a, w, _, h, r => hK S rs h B a w r
  | o :: l, i, S, rs, B, a, w, hl, h, r => by
    have hi : i < ops.size := by
      rcases Nat.lt_or_ge i ops.size with h | h
      · exact h
      · rw [List.drop_eq_nil_of_le (by simpa using h)] at hl; cases hl
    rw [List.drop_eq_getElem_cons (by simpa using hi)] at hl
    injection hl with h1 h2
    have ho : ops[i]? = some o := by rw [← h1]; simp
    have hm : noDefer o = true := List.all_eq_true.1 hd o (by rw [← h1]; exact List.getElem_mem _)
    rw [List.length_cons, List.range'_succ, List.cons_append]
    simp only [wpOpsIn, ho]
    obtain ⟨S1, ⟨es1, es2⟩, h⟩ := h
    rw [← es1, ← es2] at r
    have e1 := St.app_t S1 o.dst
    have e2 := St.app_h S1 o.dst
    rcases h with ⟨hw, rh, e, hok, hrest⟩ | ⟨hw, hdd, hrest⟩
    · rw [if_pos (wanted_of r hw)]
      refine op_in hF hm (hok S1.t S1.h (fun _ _ => rfl) (fun _ _ => rfl) (fun _ _ => rfl) B a w r _ _ fun B' a' w' r' => ?_)
      rw [← e1, ← e2] at r'
      exact ops_in2 hF hd rest l' hK l (i + 1) _ _ B' a' w' h2 hrest r'
    · rw [if_neg (by rw [wanted_of r hw]; simp)]
      have r' := r.undef hdd
      have e1' := e1 ⟨.tup [], []⟩
      have e2' := e2 ⟨.tup [], []⟩
      simp only [updH] at e2'
      rw [← e1', ← e2'] at r'
      exact ⟨fun f _ => wide_fn hF f, ops_in2 hF hd rest l' hK l (i + 1) _ _ B _ w h2 hrest r'⟩
end
/-- where a range's iterator begins: the record stands in the world, the boxes of known blocks were handed in -/
structure RangeX (l : Nat) (rc : Loop) (bs : List (Nat × Nat)) (E : Env) : Prop where
  rc0 : E.w0.heap[l]? = some (.loop rc)
  ne : ¬ E.ent l
  eb : ∀ p ∈ bs, E.eb p.1 = some (0, some p.2)
theorem AW_yield {P : Program} {E : Env} {nt id : Nat} {ops : Array Oper} {S : St} {Q : Exit → St → Prop} {l : Nat} {rc : Loop} {bs : List (Nat × Nat)} (hX : RangeX l rc bs E) (l1 l2 : List Oper) {d : Nat} {x : Operand} {args : List Operand} {ats : Array TypeId} {ty : TypeId} {pos : String} {af : Array Edge}
    (hops : ops.toList = l1 ++ ⟨some d, .call { callee := .value x, args := args.toArray, argTypes := ats }, ty, pos, af, none⟩ :: l2) (hd : ops.toList.all noDefer = true) (hdd : dOk nt (some d) = true)
    (h : AWops P E nt ops l1 S [] (fun S1 _ => ∃ xs ys H1 y H2, evalO S1.t x = some (.fn (.yield l) [] []) ∧ args.map (evalO S1.t) = xs.map some ∧ xs.all notTup = true ∧ WkGL (fun c => c) H1 xs ys ∧ YFn P l rc bs ys H1 y H2 ∧
      (∀ p ∈ bs, isVar (S1.h p.1) = true ∧ (look p.1 H1).isSome = true) ∧ NamesOk (fun c => c) S1.h H1 H1 ∧ FreshOk (fun c => c) S1.h H1 H2 ∧ OutB (fun c => c) H1 H2 = true ∧ nodupB (H1.map fun p => p.1) = true ∧ (namesA y).all (fun g => (look g H2).isSome) = true ∧
      AWops P E nt ops l2 ⟨(d, y) :: S1.T, outW (fun c => c) H2 ++ S1.H⟩ [] (fun S' _ => Q .normal S'))) : AW P E nt (.region id ops false) S Q := by
  intro B a w r
  refine wpIn_wide (n := 0).1 (wpIn_region ?_)
  let Q' : Exit → Act → World → Prop := fun e a' w' => ∃ B' S', Rel E nt B' S'.t S'.h a' w' ∧ Q e S'
  have hlen : ops.size = l1.length + (1 + l2.length) := by have := congrArg List.length hops; simp at this; omega
  have hr : List.range ops.size = List.range' 0 l1.length ++ (l1.length :: List.range' (l1.length + 1) l2.length) := by
    rw [List.range_eq_range', hlen, ← List.range'_append_1 (s := 0) (m := l1.length) (n := 1 + l2.length)]
    congr 1
    rw [Nat.add_comm 1, List.range'_succ]; simp
  show wpOpsIn _ _ _ _ Q' (List.range ops.size) a w
  rw [hr]
  refine ops_in2 (F := Fence.wide) rfl hd _ _ (fun S1 rs hK B a w r => ?_) l1 0 S [] B a w (by rw [List.drop_zero]; exact hops) h r
  obtain ⟨xs, ys, H1, y, H2, k1, k2, k3, k4, k5, k6, k7, k8, k9, k10, k11, k12⟩ := hK
  have hop : ops[l1.length]? = some ⟨some d, .call { callee := .value x, args := args.toArray, argTypes := ats }, ty, pos, af, none⟩ := by
    rw [← Array.getElem?_toList, hops]; simp
  simp only [wpOpsIn, hop]
  rw [if_pos (by simp [Region.wanted])]
  have hxs := args_rdp r args xs k2 (fun z hz => notTup_ne (List.all_eq_true.1 k3 z hz))
  obtain ⟨q1, q2⟩ := k4.rdp hxs
  have hfv := Rdv_one (by simp) (r.eval k1) rfl
  simp only [Rd] at hfv
  obtain ⟨c1, c2, e1, e2, e3⟩ := hfv
  simp only [Rdp] at e2 e3
  subst e2 e3
  injection e1 with e1
  have hN := names_of k7 k10
  have m := r.mem
  have h1 : Rdp (unst (subE E B S1.h w (fun c => c) (hL H1) hN.lo) (subB (fun c => c) B (hL H1)) (hL H1)) w ys (subB (fun c => c) B (hL H1)) (hL H1) (args.map a.eval) := by
    rw [sub_unst m hN]
    exact (Rdp_ren ys (fun g hg => names_cor hN (q2 g hg))).1 q1
  have hlt : l < E.w0.heap.size := (Array.getElem?_eq_some_iff.1 hX.rc0).1
  have hl : w.heap[l]? = some (.loop rc) := (m.left.block l hlt hX.ne).trans hX.rc0
  have hne : ¬ (subE E B S1.h w (fun c => c) (hL H1) hN.lo).ent l := fun h => by
    obtain ⟨c, bx, p1, p2⟩ := (subE_ent hN).1 h
    obtain ⟨p3, p4, _⟩ := hN.is c bx p1
    obtain ⟨cs, t, fr, p5⟩ := m.cells p3 (renB_live.trans p4) p2
    exact noCells_loop hl _ _ _ p5
  have hbs : ∀ p ∈ bs, subB (fun c => c) B (hL H1) p.1 = some p.2 := fun p hp => by
    obtain ⟨p1, p2⟩ := k6 p hp
    have p2' : (hL H1 p.1).isSome = true := p2
    simp only [subB, p2', if_true]
    cases hh : S1.h p.1 with
    | none => rw [hh] at p1; cases p1
    | some bx =>
      cases bx with
      | var z =>
        obtain ⟨b, cs, t, u1, u2, u3, u4, u5⟩ := m.box _ _ hh
        have := (u5 _ _ (hX.eb p hp)).2 rfl
        rw [u1, this]
      | froz z =>
        -- a box handed in is live
        cases hb : hL H1 p.1 with
        | none => rw [hb] at p2'; cases p2'
        | some b1 =>
          obtain ⟨v1, v2, _⟩ := hN.is _ _ hb
          rw [hh] at v1
          injection v1 with v1
          cases b1 <;> simp [renB] at v1
          cases v2
      | tail e n k => rw [hh] at p1; cases p1
      | own e n xs => rw [hh] at p1; cases p1
  obtain ⟨fn, tmps, assign, body, hy, hround⟩ := k5 (0 - 1) _ _ w _ rfl rfl hne (m.enter hN) hbs hl h1
  refine ⟨fun _ _ => trivial, ?_⟩
  have he : (Oper.semAt Fence.wide.round a.eval ⟨some d, .call { callee := .value x, args := args.toArray, argTypes := ats }, ty, pos, af, none⟩).run P w = .ok (.round l fn tmps assign body) w := by
    have hy' : (Instr.yield l (args.toArray.map a.eval)).run P w = .ok (.round l fn tmps assign body) w := by
      have : (args.toArray.map a.eval) = (args.map a.eval).toArray := by apply Array.ext'; simp
      rw [this]; exact hy
    rw [Oper.semAt_eq _ _ _ (fun c hc => by cases hc)]
    simp [execOp, resolve, Deferred.ofValue, e1, invoke, hy]
  rw [he]
  refine ⟨fun h => (by cases h), hround.mono ?_⟩
  rintro e w' ⟨v, B2, rfl, m2, hv⟩
  have o : Outs (fun c => c) S1.h (hL H1) (hL H2) (updH S1.h (outW (fun c => c) H2)) B B2 (outBlk (fun c => c) H2 B B2) := outs_of k7 k8 k9 k10
  have m3 := Mem.leave m o m2
  rw [List.all_eq_true] at k11
  have hv3 := outs_rd2 m o m2 k11 hv
  rw [ren_id] at hv3
  have r3 := ((m3.rel r.nt r.df fun s z hs => by
    obtain ⟨v0, q1, q2⟩ := r.tmp s z hs
    exact ⟨v0, q1, outs_rd1 m o m2 q2⟩).put hdd hv3)
  have eT := St.app_t S1 (some d) ⟨y, outW (fun c => c) H2⟩
  have eH := St.app_h S1 (some d) ⟨y, outW (fun c => c) H2⟩
  rw [← eT, ← eH] at r3
  have hfin := ops_in2 (F := Fence.wide) (n := 0) (P := P) (Q := Q') (K := fun S' _ => Q .normal S') rfl hd [] [] (fun S rs hK B a w r => ⟨B, S, r, hK⟩) l2 (l1.length + 1) _ [] _ _ w' (by rw [hops]; simp) k12 r3
  rw [List.append_nil] at hfin
  exact hfin
/-! ### the statement -/
theorem updH_all {H H' : List (Nat × Bx)} (ho : OutB (fun c => c) H H' = true) : updH (hL H) (outW (fun c => c) H') = hL H' := by
  funext j
  rw [updH_out]
  rcases find_look ho j with ⟨c, bx, k1, k2, k3⟩ | ⟨k1, k2⟩
  · subst k2
    rw [k3]
    simp only [renB_id]
    exact k1.symm
  · rw [k2]
    have h2 : hL H' j = none := by
      cases hh : hL H' j with
      | none => rfl
      | some bx => exact absurd rfl (k1 j (by have hh' : look j H' = some bx := hh; rw [hh']; rfl))
    simp only
    rw [h2]
    cases hh : hL H j with
    | none => rfl
    | some bx =>
      simp only [OutB, Bool.and_eq_true, List.all_eq_true] at ho
      have := ho.1.2 _ (look_mem hh)
      rw [show look j H' = none from h2] at this; cases this
theorem AFn_range {P : Program} {f : FuncId} {fn : Func} {x y z rest assign body : Code} {id : Nat} {g : Operand} {p1 p2 : Tmp} {args : List AV} {r : AV} {nt : Nat} {rv : List ResultVar} {gf : FuncId} {gfn : Func} {caps : List AV} {T : List (Nat × AV)} {H H' : List (Nat × Bx)} {gs : List (Nat × Nat)}
    (hf : P.funcs[f]? = some fn) (hb : fn.body = some (x.seq (y.seq ((z.seq (.block id (.rangeFunc g #[p1, p2] assign body))).seq rest)))) (hnt : fn.ntmps = nt) (hrv : fn.results = rv.toArray) (hn : args.length ≤ nt) (ys : List AV) (hy : resA ys = r)
    (h1 : ∀ E, AW P E nt x ⟨bindsA 0 args, []⟩ (thenA (fun S1 => AW P E nt y S1 (thenA (fun S2 => AW P E nt z S2 (fun e S' => e = .normal ∧ Go2 E nt S' ⟨T, H⟩)) (fun _ _ => False))) (fun _ _ => False)))
    (hg : evalO (fun k => look k T) g = some (.fn (.func gf) [] caps)) (hgf : P.funcs[gf]? = some gfn) (hgb : gfn.body.isSome = true) (hgn : (gfn.name == "runtime.NumGoroutine") = false)
    (hN : NamesOk (fun c => c) (hL H) H H) (hI : nodupB (H.map fun p => p.1) = true) (hcaps : (namesL caps).all (fun g => (look g H).isSome) = true)
    (hgs : ∀ p ∈ gs, look p.1 T = some (.ptr p.2 0 []))
    (hit : ∀ fn l D bk tm, tm.size = nt → HeldOk gs bk tm → CFnX P (RangeX l (recOf fn tm #[p1, p2] assign body D) (bsOf gs bk)) gf (.fn (.yield l) [] [] :: caps) H (.tup []) H')
    (hf' : FreshOk (fun c => c) (hL H) H H') (ho : OutB (fun c => c) H H' = true) (hgv : gs.all (fun p => match look p.2 H with | some (.var _) => true | _ => false) = true)
    (hN' : NamesOk (fun c => c) (hL H') H' H') (hI' : nodupB (H'.map fun p => p.1) = true) (hT' : ∀ p ∈ T, (namesA p.2).all (fun g => (look g H').isSome) = true)
    (h2 : ∀ E, AW P E nt rest ⟨T, H'⟩ (fun e S' => (e = .normal ∨ e = .ret) ∧ ResL P S' rv ys)) : AFn P f args r := by
  have hrv' : fn.results.toList = rv := by rw [hrv]
  subst hnt
  intro U w vs hvs
  subst hy
  let E : Env := ⟨w, U, fun _ => none, fun _ _ => rfl, []⟩
  have hE : ∀ b, ¬ E.ent b := fun b ⟨g, k, h⟩ => by cases h
  have eU : unst E B0 H0 = fun b o => b < w.heap.size ∧ U b o ∧ ¬ E.ent b := unst0 E
  have m0 : Mem E B0 (hL []) w := ⟨fun g bx h => (by cases h), fun g _ => rfl, fun g g' b h => (by cases h), ⟨rfl, rfl, rfl, Nat.le_refl _, fun k _ _ => rfl, Evo.refl _ _⟩, fun _ _ => rfl⟩
  have hvs0 : Rdp (unst E B0 (hL [])) w args B0 (hL []) vs := by
    have : unst E B0 (hL []) = unst E B0 H0 := rfl
    rw [this, eU]
    have hx : ∀ (l : List AV) {vs : List Value}, Rdp U w l B0 H0 vs → Rdp (fun b o => b < w.heap.size ∧ U b o ∧ ¬ E.ent b) w l B0 H0 vs := fun l vs h =>
      Rdp_go (Evo.refl _ w) (fun b o _ h => h.2.1) l (Pic.refl0 _ _) h
    exact hx args hvs
  have r0 := frame_in (nt := fn.ntmps) rfl m0 hvs0 hn
  let R : Ending → World → Prop := fun e w' => ∃ v, e = .returned v ∧ Rdv (fun b o => b < w.heap.size ∧ U b o) w' B0 H0 (resA ys) v ∧ Ext w w'
  refine (callsIn_wide (n := 1)).1 (callsIn_of_wp_marks hf hb trivial (wpIn_wide.2 ?_) rfl)
  have h1' := h1 E B0 _ w r0
  -- what stands behind the three first parts
  have key : ∀ (B : Blk) (a : Act) (w1 : World), Rel E fn.ntmps B (St.t ⟨T, H⟩) (St.h ⟨T, H⟩) a w1 → (Code.block id (.rangeFunc g #[p1, p2] assign body)).wp P (Exit.then (rest.wp P (bodyPostM Fence.wide 1 P fn R)) (bodyPostM Fence.wide 1 P fn R)) a w1 := by
    intro B a w1 r1
    refine (wp_block (wpIn_wide (n := 1).1 (wpIn_rangeFunc fun fnr _ => ?_)))
    have hNm := names_of hN hI
    let w2 := (w1.alloc (.deferred (some []))).alloc (.loop (recOf fnr a.tmps #[p1, p2] assign body w1.heap.size))
    have e12 : Ext w1 w2 := ((Ext.refl w1).alloc _).alloc _
    have r2 := r1.ext e12
    have hgv1 := Rdv_one (by simp) (r2.eval hg) rfl
    simp only [Rd] at hgv1
    obtain ⟨c1, c2, q1, q2, q3⟩ := hgv1
    simp only [Rdp] at q2
    subst q2
    injection q1 with q1
    have hl2 : w2.heap[w1.heap.size + 1]? = some (.loop (recOf fnr a.tmps #[p1, p2] assign body w1.heap.size)) := by
      have := World.alloc_heap_new (w1.alloc (.deferred (some []))) (.loop (recOf fnr a.tmps #[p1, p2] assign body w1.heap.size)); rwa [World.size_alloc] at this
    have hD2 : w2.heap[w1.heap.size]? = some (.deferred (some [])) := by
      exact (((Ext.refl (w1.alloc (.deferred (some [])))).alloc _).block _ (by simp)).trans (World.alloc_heap_new w1 _)
    refine ⟨w1.heap.size + 1, [{ target := .collected w1.heap.size, args := #[] }], w2, { target := .fn (.func gf) c2.toArray, args := #[.func (.yield (w1.heap.size + 1)) #[] #[]] }, w2, gf,
      #[.func (.yield (w1.heap.size + 1)) #[] #[]] ++ c2.toArray, w2, run_enterLoop_outer _ _ _ _ _, ?_, fun _ _ => trivial, ?_, fun h => (by cases h), ?_⟩
    · simp only [resolve, q1]
      simp [Deferred.ofValue, go_sem]
    · have hb' : gfn.body ≠ none := by cases h : gfn.body <;> simp_all
      have hn' : gfn.name ≠ "runtime.NumGoroutine" := by simpa using hgn
      simp [invoke, callFunc, hgf, hn', hb']
    have bkd : ∀ p ∈ gs, ∃ b, B p.2 = some b ∧ a.tmps[p.1]? = some (.pointer (some ⟨b, 0, none⟩)) := fun p hp => by
      obtain ⟨v, k1, k2⟩ := r1.tmp p.1 _ (hgs p hp)
      rw [Rdv_not (by simp)] at k2
      obtain ⟨c, k3, k4⟩ := k2
      simp only [Rd] at k3
      obtain ⟨_, b, k5, rfl⟩ := k3
      exact ⟨b, k5, by rw [k1, k4]; rfl⟩
    have held : HeldOk gs (fun j => (B j).getD 0) a.tmps := fun p hp => by
      obtain ⟨b, k1, k2⟩ := bkd p hp
      rw [k2]
      simp [k1]
    have hcall := hit fnr (w1.heap.size + 1) w1.heap.size _ a.tmps r1.nt held
    have m2 : Mem E B (hL H) w2 := r2.mem
    have hne : ∀ k, noCells w2 k → ¬ (subE E B (hL H) w2 (fun c => c) (hL H) hNm.lo).ent k := fun k hk h => by
      obtain ⟨c, bx, p1, p2⟩ := (subE_ent hNm).1 h
      obtain ⟨p3, p4, _⟩ := hNm.is c bx p1
      obtain ⟨cs, t, fr, p5⟩ := m2.cells p3 (renB_live.trans p4) p2
      exact hk _ _ _ p5
    have hvs2 : Rdp (unst (subE E B (hL H) w2 (fun c => c) (hL H) hNm.lo) (subB (fun c => c) B (hL H)) (hL H)) w2 (.fn (.yield (w1.heap.size + 1)) [] [] :: caps) (subB (fun c => c) B (hL H)) (hL H) (.func (.yield (w1.heap.size + 1)) #[] #[] :: c2) := by
      rw [sub_unst m2 hNm]
      rw [List.all_eq_true] at hcaps
      simp only [Rdp]
      refine ⟨[.func (.yield (w1.heap.size + 1)) #[] #[]], c2, rfl, by simp [Rd, Rdp], (Rdp_ren caps (fun g hg => names_cor hNm (hcaps g hg))).1 (by rw [ren_idL]; exact q3)⟩
    have hX : RangeX (w1.heap.size + 1) (recOf fnr a.tmps #[p1, p2] assign body w1.heap.size) (bsOf gs fun j => (B j).getD 0) (subE E B (hL H) w2 (fun c => c) (hL H) hNm.lo) := by
      refine ⟨hl2, hne _ (noCells_loop hl2), fun p hp => ?_⟩
      obtain ⟨⟨s, j⟩, k1, rfl⟩ := List.mem_map.1 hp
      obtain ⟨b, k2, _⟩ := bkd _ k1
      rw [List.all_eq_true] at hgv
      have k3 := hgv _ k1
      simp only at k3 k2
      have k4 : (subE E B (hL H) w2 (fun c => c) (hL H) hNm.lo).eb j = match hL H j with | some bx => some (verB bx, B j) | none => none := rfl
      show (subE E B (hL H) w2 (fun c => c) (hL H) hNm.lo).eb j = _
      rw [k4]
      clear k4
      cases hh : look j H with
      | none => rw [hh] at k3; cases k3
      | some bx =>
        rw [hh] at k3
        cases bx with
        | var x =>
          have hh' : hL H j = some (.var x) := hh
          rw [hh']
          simp only [verB, k2, Option.getD_some]
        | froz x => cases k3
        | tail e n k => cases k3
        | own e n k => cases k3
    have hc := hcall _ _ w2 _ hX rfl (m2.enter hNm) hvs2
    have ea : (Value.func (.yield (w1.heap.size + 1)) #[] #[] :: c2).toArray = #[Value.func (.yield (w1.heap.size + 1)) #[] #[]] ++ c2.toArray := by simp
    rw [ea] at hc
    refine CallsIn.mono (callsIn_wide.2 hc) ?_
    rintro e w3 ⟨v, B3, rfl, m3, -⟩
    have o : Outs (fun c => c) (hL H) (hL H) (hL H') (updH (hL H) (outW (fun c => c) H')) B B3 (outBlk (fun c => c) H' B B3) := outs_of hN hf' ho hI
    have m4 := Mem.leave m2 o m3
    have eH := updH_all ho
    have held4 : ∀ s xx, look s T = some xx → ∃ v, a.tmps[s]? = some v ∧ Rdv (unst E (outBlk (fun c => c) H' B B3) (hL H')) w3 (outBlk (fun c => c) H' B B3) (hL H') xx v := fun s xx hs => by
      obtain ⟨v0, q1, q2⟩ := r2.tmp s xx hs
      have := outs_rd1 m2 o m3 q2
      rw [eH] at this
      exact ⟨v0, q1, this⟩
    rw [eH] at m4
    have hl3 : w3.heap[w1.heap.size + 1]? = some (.loop (recOf fnr a.tmps #[p1, p2] assign body w1.heap.size)) :=
      (m3.left.block _ (Array.getElem?_eq_some_iff.1 hl2).1 (hne _ (noCells_loop hl2))).trans hl2
    have hD3 : w3.heap[w1.heap.size]? = some (.deferred (some [])) := (m3.left.block _ (Array.getElem?_eq_some_iff.1 hD2).1 (hne _ (noCells_def hD2))).trans hD2
    refine ⟨none, _, run_endLoop hl3 (by simp [recOf]), ?_⟩
    have tw : Twin (w1.heap.size + 1) w3 (w3.putObj (w1.heap.size + 1) (.loop { recOf fnr a.tmps #[p1, p2] assign body w1.heap.size with state := .exhausted })) := Twin.put hl3 (by intros; simp) (by intros; simp)
    have hsz : E.w0.heap.size ≤ w1.heap.size := r1.left.size
    obtain ⟨m5, rd5⟩ := Mem.swap (E' := E) rfl rfl (.inr rfl) tw (fun h => absurd h (by omega)) m4
    generalize hw4 : w3.putObj (w1.heap.size + 1) (.loop { recOf fnr a.tmps #[p1, p2] assign body w1.heap.size with state := .exhausted }) = w4 at m5 rd5 tw
    have hD4 : w4.heap[w1.heap.size]? = some (.deferred (some [])) := (tw.heap _ (by omega)).trans hD3
    have hNm' := names_of hN' hI'
    have hne4 : ∀ k, noCells w4 k → ¬ (subE E (outBlk (fun c => c) H' B B3) (hL H') w4 (fun c => c) (hL H') hNm'.lo).ent k := fun k hk h => by
      obtain ⟨c, bx, p1, p2⟩ := (subE_ent (E := E) (w := w4) hNm').1 h
      obtain ⟨p3, p4, _⟩ := hNm'.is c bx p1
      obtain ⟨cs, t, fr, p5⟩ := m5.cells p3 (renB_live.trans p4) p2
      exact hk _ _ _ p5
    have mE := m5.enter hNm'
    let E1 := subE E (outBlk (fun c => c) H' B B3) (hL H') w4 (fun c => c) (hL H') hNm'.lo
    let E2 : Env := { E1 with df := [{ target := .collected w1.heap.size, args := #[] }] }
    have mE2 : Mem E2 (subB (fun c => c) (outBlk (fun c => c) H' B B3) (hL H')) (hL H') w4 := ⟨mE.box, mE.non, mE.inj, ⟨mE.left.os, mE.left.tape, mE.left.output, mE.left.size, mE.left.block, mE.left.evo⟩, mE.keep⟩
    have rE2 : Rel E2 fn.ntmps (subB (fun c => c) (outBlk (fun c => c) H' B B3) (hL H')) (St.t ⟨T, H'⟩) (St.h ⟨T, H'⟩) { a with defers := [{ target := .collected w1.heap.size, args := #[] }] ++ a.defers } w4 := by
      refine mE2.rel r1.nt (by rw [r1.df]; rfl) fun s xx hs => ?_
      obtain ⟨v0, q1, q2⟩ := held4 s xx hs
      have h3 := hT' _ (look_mem hs)
      rw [List.all_eq_true] at h3
      exact ⟨v0, q1, m5.enter_rd hNm' (fun g hg => h3 g hg) (by rw [ren_id]; exact rd5 _ _ q2)⟩
    refine wp_mono (h2 E2 _ _ w4 rE2) ?_
    rintro e a' w5 ⟨B5, S5, r5, he, hres⟩
    have hD5 : w5.heap[w1.heap.size]? = some (.deferred (some [])) := (r5.left.block _ (Array.getElem?_eq_some_iff.1 hD4).1 (hne4 _ (noCells_def hD4))).trans hD4
    have tw5 : Twin w1.heap.size w5 (w5.putObj w1.heap.size (.deferred none)) := Twin.put hD5 (by intros; simp) (by intros; simp)
    have tw4 : Twin w1.heap.size w4 (w4.putObj w1.heap.size (.deferred none)) := Twin.put hD4 (by intros; simp) (by intros; simp)
    have hlt4 := (Array.getElem?_eq_some_iff.1 hD4).1
    have hlt5 := (Array.getElem?_eq_some_iff.1 hD5).1
    let E3 : Env := { E2 with w0 := w4.putObj w1.heap.size (.deferred none) }
    obtain ⟨m6, rd6⟩ := Mem.swap (E := E2) (E' := E3) rfl rfl (.inl tw4) tw5 (fun _ _ => (World.putObj_heap_same hlt5).trans (World.putObj_heap_same hlt4).symm) r5.mem
    have r6 : Rel E3 fn.ntmps B5 S5.t S5.h a' (w5.putObj w1.heap.size (.deferred none)) := m6.rel r5.nt r5.df fun s xx hs => by
      obtain ⟨v0, q1, q2⟩ := r5.tmp s xx hs
      exact ⟨v0, q1, rd6 _ _ q2⟩
    subst hrv'
    obtain ⟨us, k1, k2, k3⟩ := resL_run r6 _ _ hres
    have hx : Ext w (w5.putObj w1.heap.size (.deferred none)) := by
      refine ⟨?_, ?_, ?_, ?_, fun k hk => ?_⟩
      · exact (r5.left.os.trans m5.left.os : w5.os = w.os)
      · exact (r5.left.tape.trans m5.left.tape : w5.tape = w.tape)
      · exact (r5.left.output.trans m5.left.output : w5.output = w.output)
      · rw [World.putObj_size]; exact Nat.le_trans m5.left.size r5.left.size
      · have hkD : k ≠ w1.heap.size := by have : w.heap.size ≤ w1.heap.size := hsz; omega
        rw [World.putObj_heap_other hkD]
        refine (r5.left.block k (Nat.lt_of_lt_of_le hk m5.left.size) (fun h => ?_)).trans (m5.left.block k hk (hE k))
        obtain ⟨c, bx, p1, p2⟩ := (subE_ent (E := E) (w := w4) hNm').1 h
        obtain ⟨p3, p4, _⟩ := hNm'.is c bx p1
        rcases m5.mine p3 (renB_live.trans p4) p2 with p5 | p5
        · have : w.heap.size ≤ k := p5
          omega
        · exact hE _ p5.2.1
    have hU : ∀ b o, b < w.heap.size ∧ U b o → unst E3 B5 S5.h b o := fun b o h => by
      refine .inl ⟨?_, ?_, fun h' => ?_⟩
      · show b < (w4.putObj _ _).heap.size
        rw [World.putObj_size]; exact Nat.lt_of_lt_of_le h.1 m5.left.size
      · exact .inl ⟨h.1, h.2, hE b⟩
      · obtain ⟨c, bx, p1, p2⟩ := (subE_ent (E := E) (w := w4) hNm').1 h'
        obtain ⟨p3, p4, _⟩ := hNm'.is c bx p1
        rcases m5.mine p3 (renB_live.trans p4) p2 with p5 | p5
        · have : w.heap.size ≤ b := p5
          omega
        · exact hE _ p5.2.1
    have hfin : ∃ v, (results fn a'.tmps).run P (w5.putObj w1.heap.size (.deferred none)) = .ok v (w5.putObj w1.heap.size (.deferred none)) ∧ R (.returned v) (w5.putObj w1.heap.size (.deferred none)) := by
      have hm := mapM_arr _ _ _ _ _ k1
      rw [Array.toArray_toList] at hm
      rw [results_eq, Sem.run_bind, hm]
      obtain ⟨m1, m2⟩ := Rdp_get k3
      by_cases h1 : us.length = 1
      · obtain ⟨u, rfl⟩ := List.length_eq_one_iff.1 h1
        obtain ⟨y, rfl⟩ := List.length_eq_one_iff.1 (m1.trans h1)
        refine ⟨u, by simp, u, rfl, ?_, hx⟩
        obtain ⟨v, h3, c', h4, h5⟩ := m2 0 y rfl
        simp at h3
        subst h3
        show Rdv (fun b o => b < w.heap.size ∧ U b o) _ B0 H0 y u
        exact Rdv_sub (U := unst E3 B5 S5.h) hU (by rw [Rdv_not (Rd_notup h4)]; exact ⟨c', h4, h5⟩)
      · refine ⟨.tuple us.toArray, by simp [h1], _, rfl, ?_, hx⟩
        have hr : resA ys = .tup ys := by
          match ys, m1 with
          | [], _ => rfl
          | [y], m1 => exact absurd m1.symm h1
          | y :: z :: l, _ => rfl
        rw [hr, Rdv_tup]
        have := Rdv_sub (U := unst E3 B5 S5.h) (U' := fun b o => b < w.heap.size ∧ U b o) (w := w5.putObj w1.heap.size (.deferred none)) (B := B0) (H := H0) (x := .tup ys) (v := .tuple us.toArray) hU (by rw [Rdv_tup]; exact ⟨us, rfl, k3⟩)
        rw [Rdv_tup] at this
        exact this
    obtain ⟨v5, k4, k5⟩ := hfin
    have hdf : a'.defers = [{ target := .collected w1.heap.size, args := #[] }] := r5.df
    have hl' : LeavesInM Fence.wide 1 P fn a'.tmps R a'.defers .returning w5 := by
      rw [hdf]
      exact ⟨by simp, .inl ⟨w1.heap.size, _, rfl, run_takeDeferred hD5, v5, k4, k5⟩⟩
    rcases he with rfl | rfl
    · exact hl'
    · exact hl'
  refine wp_seq (wp_mono h1' ?_)
  rintro e a1 w1 ⟨B1, S1, r1, q1⟩
  cases e <;> first | exact q1.elim | skip
  refine wp_seq (wp_mono (q1 B1 a1 w1 r1) ?_)
  rintro e a2 w2 ⟨B2, S2, r2, q2⟩
  cases e <;> first | exact q2.elim | skip
  refine wp_seq (wp_seq (wp_mono (q2 B2 a2 w2 r2) ?_))
  rintro e a3 w3 ⟨B3, S3, r3, rfl, hs⟩
  obtain ⟨B3', r3'⟩ := hs B3 a3 w3 r3
  exact key B3' a3 w3 r3'
end Go.Proofs.Ytofcabhahdecdaa

namespace Go.Proofs.Ytofcabhahdecdaa
open Go Go.RowKit
set_option linter.unusedVariables false
set_option linter.unusedSimpArgs false
set_option maxRecDepth 100000

/-! ### plain law -/
def mdStep (s : List Ent × List Ans) (o : Opn) : List Ent × List Ans := ((mdDo s.1 o).1, s.2 ++ [(mdDo s.1 o).2])
def mdF (l : List Ent) (ops : List Opn) (j : Nat) : List Ent × List Ans := (ops.take j).foldl mdStep (l, [])
def mdRun (l : List Ent) (ops : List Opn) : List Ent × List Ans := ops.foldl mdStep (l, [])
theorem mdF_snoc (l : List Ent) (ops : List Opn) (j : Nat) (h : j < ops.length) : mdF l ops (j + 1) = mdStep (mdF l ops j) ops[j] := by
  unfold mdF
  rw [← List.take_append_getElem h, List.foldl_append]
  rfl
theorem mdF_end (l : List Ent) (ops : List Opn) : mdF l ops ops.length = mdRun l ops := by unfold mdF mdRun; rw [List.take_length]
theorem large_false {o : Opn} (h : large o = false) : o.key.size ≤ 8 ∧ (o.kind = 1 → o.val.size ≤ 16) := by
  unfold large at h
  simp only [Bool.or_eq_false_iff, Bool.and_eq_false_iff, decide_eq_false_iff_not] at h
  exact ⟨by omega, fun k => by rcases h.2 with h | h; exact absurd k h; omega⟩
theorem msgOf_ok {o : Opn} (h1 : 1 ≤ o.kind) (h3 : o.kind ≤ 3) : (msgOf o).ok = true := by
  have hk : (msgOf o).key.ok = true := keyOf_ok _
  unfold Msg.ok
  rw [hk]
  unfold msgOf
  by_cases k1 : o.kind = 1
  · simp [k1, vlOf_ok]
  · by_cases k3 : o.kind = 3
    · simp [k3]
    · simp [k1, k3, h1, h3]
theorem mdDo_lf {l : List Ent} (h : Lf l) (o : Opn) : Lf (mdDo l o).1 := by
  unfold mdDo
  split
  · exact h
  · split
    · exact h
    · split
      · exact h
      · exact lf_put h (msgOf_ok (by omega) (by omega))
theorem mdDo_len (l : List Ent) (o : Opn) : (mdDo l o).1.length ≤ l.length + 1 := by
  unfold mdDo
  split
  · exact Nat.le_succ _
  · split
    · exact Nat.le_succ _
    · split
      · exact Nat.le_succ _
      · exact put_len _ _
theorem mdF_lf {l : List Ent} (h : Lf l) (ops : List Opn) : ∀ j, Lf (mdF l ops j).1 := by
  intro j
  unfold mdF
  generalize ops.take j = xs
  have : ∀ (xs : List Opn) (s : List Ent × List Ans), Lf s.1 → Lf (xs.foldl mdStep s).1 := by
    intro xs
    induction xs with
    | nil => exact fun s h => h
    | cons o xs ih => exact fun s h => ih _ (mdDo_lf h o)
  exact this xs _ h
theorem mdF_len (l : List Ent) (ops : List Opn) (j : Nat) : (mdF l ops j).1.length ≤ l.length + j ∧ (mdF l ops j).2.length ≤ j := by
  unfold mdF
  have : ∀ (xs : List Opn) (s : List Ent × List Ans), (xs.foldl mdStep s).1.length ≤ s.1.length + xs.length ∧ (xs.foldl mdStep s).2.length = s.2.length + xs.length := by
    intro xs
    induction xs with
    | nil => exact fun s => ⟨Nat.le_refl _, rfl⟩
    | cons o xs ih =>
      intro s
      obtain ⟨h1, h2⟩ := ih (mdStep s o)
      have h3 := mdDo_len s.1 o
      rw [List.foldl_cons, List.length_cons]
      have h4 : (mdStep s o).2.length = s.2.length + 1 := by unfold mdStep; simp
      have h5 : (mdStep s o).1 = (mdDo s.1 o).1 := rfl
      rw [h4] at h2
      rw [h5] at h1
      exact ⟨by omega, by omega⟩
  obtain ⟨h1, h2⟩ := this (ops.take j) (l, [])
  rw [List.length_take] at h1 h2
  simp only [List.length_nil] at h1 h2
  exact ⟨by omega, by omega⟩
/-! ### a variable that is nil, as a row to be appended to -/
theorem Go2.tokenB {E : Env} {nt : Nat} {T : List (Nat × AV)} {H : List (Nat × Bx)} (b g n : Nat) (e : TypeId) (hs : look b H = some (.var (.v (.slice none 0 0)))) (hg : look g H = none) : Go2 E nt ⟨T, H⟩ ⟨T, (b, .var (.sl (some g) (n + 1) [])) :: (g, .tail e (n + 1) 0) :: H⟩ := fun B a w r => by
  have r1 := r.token (g := g) (n := n + 1) (e := e) hg (Nat.succ_pos n)
  have hbg : b ≠ g := fun e => by subst e; rw [hg] at hs; cases hs
  have eH : St.h ⟨T, (b, Bx.var (.sl (some g) (n + 1) [])) :: (g, .tail e (n + 1) 0) :: H⟩ = upd (upd (St.h ⟨T, H⟩) g (.tail e (n + 1) 0)) b (.var (.sl (some g) (n + 1) [])) := by
    show (fun k => look k ((b, Bx.var (.sl (some g) (n + 1) [])) :: (g, .tail e (n + 1) 0) :: H)) = _
    rw [look_cons, look_cons]
    rfl
  refine ⟨B, ?_⟩
  rw [eH]
  generalize hH : upd (St.h ⟨T, H⟩) g (.tail e (n + 1) 0) = H1 at r1 ⊢
  have h1b : H1 b = some (.var (.v (.slice none 0 0))) := by rw [← hH, upd_ne _ _ hbg]; exact hs
  have h1g : H1 g = some (.tail e (n + 1) 0) := by rw [← hH]; exact upd_same _ _ _
  have hBg : B g = none := r.non g hg
  have hsh : ∀ j, isVar (upd H1 b (.var (.sl (some g) (n + 1) [])) j) = isVar (H1 j) ∧ live (upd H1 b (.var (.sl (some g) (n + 1) [])) j) = live (H1 j) := fun j => by
    by_cases c : j = b
    · subst c; rw [upd_same, h1b]; exact ⟨rfl, rfl⟩
    · rw [upd_ne _ _ c]; exact ⟨rfl, rfl⟩
  have hun : unst E B (upd H1 b (.var (.sl (some g) (n + 1) []))) = unst E B H1 := by
    funext k o
    refine propext (or_congr Iff.rfl (exists_congr fun j => and_congr_right fun _ => ?_))
    by_cases c : j = b
    · subst c; rw [upd_same, h1b]
    · rw [upd_ne _ _ c]
  have pic : Pic w w B B H1 (upd H1 b (.var (.sl (some g) (n + 1) []))) := by
    refine ⟨fun _ _ _ h => h, fun j h => (hsh j).1.trans h, fun t n len A cap h => ?_, ownPic (Evo.refl (fun _ _ => False) w) fun j e' n' xs h => ?_⟩
    · obtain ⟨e', k, h1, h2⟩ := h
      refine ⟨e', k, ?_, h2⟩
      rw [upd_ne]
      · exact h1
      · rintro rfl; rw [h1b] at h1; cases h1
    · refine ⟨?_, rfl⟩
      rw [upd_ne]
      · exact h
      · rintro rfl; rw [h1b] at h; cases h
  have rd : ∀ (x : AV) {c : List Value}, Rd (unst E B H1) w x B H1 c → Rd (unst E B (upd H1 b (.var (.sl (some g) (n + 1) [])))) w x B (upd H1 b (.var (.sl (some g) (n + 1) []))) c := fun x c h => by
    rw [hun]; exact Rd_go (Evo.refl _ w) (fun _ _ _ h => h) x pic h
  refine ⟨r1.nt, r1.df, fun s x hx => ?_, fun j bx h => ?_, fun j h => ?_, fun j1 j2 k h1 h2 => ?_, r1.left, fun j h => ?_⟩
  · obtain ⟨v, k1, k2⟩ := r1.tmp s x hx
    exact ⟨v, k1, by rw [hun]; exact Rdv_go (Evo.refl _ w) (fun _ _ _ h => h) pic k2⟩
  · by_cases c : j = b
    · subst c
      rw [upd_same] at h
      injection h with h
      subst h
      obtain ⟨k, cs, t, k1, k2, k3, k4⟩ := r1.box j _ h1b
      refine ⟨k, cs, t, k1, k2, ?_, k4⟩
      simp only [Rd] at k3
      obtain ⟨_, rfl⟩ := k3
      exact nil_token (by rw [upd_ne _ _ (Ne.symm hbg)]; exact h1g) hBg
    · rw [upd_ne _ _ c] at h
      have hb := r1.box j bx h
      cases bx with
      | var x =>
        obtain ⟨k, cs, t, k1, k2, k3, k4⟩ := hb
        exact ⟨k, cs, t, k1, k2, rd x k3, k4⟩
      | froz x =>
        obtain ⟨k, cs, k1, k2, k3, k4⟩ := hb
        exact ⟨k, cs, k1, k2, by rw [hun]; exact k3, rd x k4⟩
      | tail e n k => exact hb
      | own e' n' xs =>
        refine ⟨hb.1, hb.2.1, hb.2.2.imp id ?_⟩
        rintro ⟨k, cur, cap, c, m1, m2, m3, m4, m5, m6, m7, m8⟩
        exact ⟨k, cur, cap, c, m1, m2, m3, m4, m5, m6, by rw [hun]; exact m7, m8⟩
  · by_cases c : j = b
    · subst c; rw [upd_same] at h; cases h
    · rw [upd_ne _ _ c] at h; exact r1.non j h
  · rw [(hsh j1).2] at h1
    rw [(hsh j2).2] at h2
    exact r1.inj j1 j2 k h1 h2
  · by_cases c : j = b
    · subst c; rw [upd_same] at h; cases h
    · rw [upd_ne _ _ c] at h; exact r1.keep j h
section
variable {E : Env} {nt : Nat} {ops : Array Oper} {T : Nat → Option AV} {H : Hp} {d : Nat} {ty : TypeId} {pos : String} {af : Array Edge} {gd : Option (Nat × Bool)}
/-- a variable's block, under a name of one's own choice -/
theorem o_boxg (g : Nat) {e : TypeId} {x : Operand} {z : AV} (hd : dOk nt (some d) = true) (hx : evalO T x = some z) (hnt : notTup z = true) (hg : H g = none) : OpOK Try.prog E nt ops ⟨some d, .box e x, ty, pos, af, gd⟩ T H [] ⟨.ptr g 0 [], [(g, .var z)]⟩ := ok_box hd hx hnt hg
theorem o_allocg (g : Nat) {e : TypeId} {z : AV} (hz : ZeroOk Try.prog e z) (hd : dOk nt (some d) = true) (hg : H g = none) : OpOK Try.prog E nt ops ⟨some d, .alloc e, ty, pos, af, gd⟩ T H [] ⟨.ptr g 0 [], [(g, .var z)]⟩ := ok_alloc hd hz hg
end
theorem zero_slans : ZeroOk Try.prog 28 (.v (.slice none 0 0)) := zero_of (v := .slice none 0 0) (n := 1) (by kernel_rfl) fun U w => (rd_v rfl).2 rfl
/-- Run's own boxes, as its rounds have them -/
def hRun (l : List Ent) (outs : List Ans) : List (Nat × Bx) := [(1002, .var (entsA l)), (1006, .var (.sl (some 1020) 19 (outs.map Ans.av))), (1020, .tail 43 19 outs.length)]
/-- .. and the iterator's, beside them -/
def hIt (l : List Ent) (outs : List Ans) (ops : List Opn) : List (Nat × Bx) := hRun l outs ++ [(1003, .var (opsA ops)), (1012, .var (entsA l))]
attribute [local irreducible] OpOK AWops AW CondB Go2 AFn thenA inBlockA noGotoA orderOk wantedA
set_option maxRecDepth 100000 in
set_option maxHeartbeats 4000000 in
theorem c_done (l : List Ent) (ops : List Opn) : CFn Try.prog 30 [entsA l, opsA ops] [] (.fn (.func 45) [] [.ptr 3 0 [], .ptr 2 0 []]) [(3, .var (opsA ops)), (2, .var (entsA l))] := by
  refine CFn_intro Try.func30 rfl Try.ntmps30 rfl (by simp) [_] rfl fun E _ => ?_
  have fin := fun {S : St} (h : LeaveOk S.H [(3, .var (opsA ops)), (2, .var (entsA l))] ∧ ResLC Try.prog S [(3, .var (opsA ops)), (2, .var (entsA l))] [.tmp 4] [.fn (.func 45) [] [.ptr 3 0 [], .ptr 2 0 []]]) => (⟨.inr rfl, h⟩ : (Exit.ret = .normal ∨ Exit.ret = .ret) ∧ _)
  refine wF ?_
  exact fin ⟨⟨(by repeat' (first | exact True.intro | rfl | apply And.intro)), rfl⟩, ⟨_, rfl, by simp, .inl ⟨rfl, rfl⟩⟩, trivial⟩
set_option maxRecDepth 100000 in
set_option maxHeartbeats 4000000 in
theorem c_done1 {lc : Nat} {rc : Loop} {bk : Nat → Nat} (l : List Ent) (ops : List Opn) (h : Lf l) (hl : l.length ≤ 100000000) (ho : ops.length ≤ 100000000)
    (hy : ∀ l' a l outs, outs.length ≤ 1000000000 → YFn Try.prog lc rc (bsOf [(2, 1002), (6, 1006)] bk) [entsA l', Ans.av a] (hRun l outs) (.v (.bool true)) (hRun l' (outs ++ [a]))) :
    CFnX Try.prog (RangeX lc rc (bsOf [(2, 1002), (6, 1006)] bk)) 45 [.fn (.yield lc) [] [], .ptr 1003 0 [], .ptr 1012 0 []] (hIt l [] ops) (.tup []) (hIt (mdRun l ops).1 (mdRun l ops).2 ops) := by
  refine CFn_intro Try.func45 rfl Try.ntmps45 rfl (by simp) [] rfl fun E hX => ?_
  refine AW_seq ?_
  refine wM ?_
  refine AW_loopI (fun j : Nat => ⟨[(9, .v (.int .i64 (j : Nat))), (8, .v (.int .i64 ops.length)), (7, opsA ops), (2, .ptr 1012 0 []), (0, .fn (.yield lc) [] [])], hIt (mdF l ops j).1 (mdF l ops j).2 ops⟩) (fun j => j ≤ ops.length) (fun j => ops.length - j) 0 (Nat.zero_le _) (by (refine Go2.sub ⟨?_, ?_, ?_⟩ <;> repeat' (first | exact True.intro | rfl | apply And.intro))) (fun j hj => ?_)
  have hlf := mdF_lf h ops j
  obtain ⟨hb1, hb2⟩ := mdF_len l ops j
  by_cases hlt : j < ops.length
  · have hs := mdF_snoc l ops j hlt
    have c1 := a_mdo (mdF l ops j).1 ops[j] hlf (by omega)
    have hlt' : (j : Int) < (ops.length : Nat) := by omega
    refine wM ?_
    have d1 := acall Try.func16 (c1) (by decide +kernel) (by decide +kernel)
    iterate 9 (first | (first | refine Wend _ ?_ | refine AW_seq ?_ | refine AW_reg ?_ | refine AW_drw mixed ?_ | refine AW_block ?_ | refine AW_scope ?_ | refine thenA_n ?_ | refine blockA_n ?_ | refine blockA_h ?_ | refine scopeA_n ?_ | refine thenA_r ?_ | refine blockA_r ?_ | refine scopeA_r ?_ | refine thenA_e ?_ | refine scopeA_e ?_ | refine blockA_e rfl ?_ | refine AW_exit ?_ | refine AW_ret ?_ | refine AW_skip ?_ | refine AW_c rfl ?_ | with_reducible refine cb_t ?_ | with_reducible refine cb_f ?_ | with_reducible refine cb_yes (by first | assumption | omega) ?_ | with_reducible refine cb_no (by first | assumption | omega) ?_ | refine And.intro (by decide +kernel) ?_) | (first | (apply Wv; (focus (first | exact step_ok rfl rfl | exact o_idx rfl rfl rfl rfl (by first | assumption | omega | decide) | exact o_idx3 rfl rfl rfl rfl (by first | assumption | omega | decide) | exact o_idx2 rfl rfl rfl rfl rfl (by first | assumption | omega | decide) | exact o_idxr rfl rfl rfl rfl rfl rfl | exact o_lenm rfl rfl rfl | exact o_len rfl rfl rfl | exact o_len0 rfl rfl rfl | exact o_lens rfl rfl rfl | exact o_lent rfl rfl | exact o_add1 rfl rfl rfl (by omega) | exact o_addn rfl rfl rfl (by omega) | exact o_add rfl rfl rfl (by omega) | exact o_sub1 rfl rfl rfl (by omega) | exact o_sub rfl rfl rfl (by omega) | exact o_mul rfl rfl rfl (by omega) | exact o_rem rfl rfl rfl (by omega) | exact ok_rem rfl rfl rfl (by decide) rfl | exact o_eqKey rfl rfl rfl | exact o_neKey rfl rfl rfl | exact o_eqVl rfl rfl rfl | exact o_neVl rfl rfl rfl | exact o_eqEnt rfl rfl rfl | exact o_neEnt rfl rfl rfl | exact o_eqMsg rfl rfl rfl | exact o_neMsg rfl rfl rfl | exact o_acall rfl rfl rfl rfl (by assumption) | exact o_minn rfl rfl rfl | exact o_cutl rfl rfl rfl rfl (by omega) | exact o_cuth rfl rfl rfl rfl (by omega) | exact o_cutl3 rfl rfl rfl rfl (by omega) | exact o_cuth3 rfl rfl rfl rfl (by omega) | exact o_cutl2 rfl rfl rfl rfl rfl (by omega) | exact o_cuth2 rfl rfl rfl rfl rfl (by omega) | exact o_cutlh2 rfl rfl rfl rfl rfl rfl rfl (by omega) (by omega) | exact o_bld zero_Opn rfl rfl rfl rfl rfl rfl rfl | exact o_bld zero_Ans rfl rfl rfl rfl rfl rfl rfl | exact o_eqAns rfl rfl rfl | exact o_neAns rfl rfl rfl | exact e_bld rfl rfl rfl | exact e_bldk rfl rfl | exact z_bld0 rfl rfl rfl rfl rfl | exact z_bld rfl rfl rfl rfl rfl rfl rfl | exact o_addu rfl rfl rfl | exact z_blda rfl rfl rfl rfl rfl rfl rfl rfl rfl | exact o_idxa rfl rfl rfl rfl rfl rfl | exact o_idxra rfl rfl rfl rfl rfl rfl rfl | exact o_quo2 rfl rfl rfl (by omega) | exact o_quo rfl rfl rfl (by omega))); (focus (first | exact want_n | exact want_g rfl (by with_reducible rfl)))) | (apply Wb; (focus (first | exact o_box rfl rfl rfl rfl | exact o_app rfl rfl rfl rfl rfl (by first | exact o_many rfl | exact o_one _ _ rfl) (by first | omega | (simp; omega) | simp) (by first | omega | (simp; omega) | simp) | exact o_appn rfl rfl rfl rfl rfl (by first | exact o_many rfl | exact o_one _ _ rfl) (by first | omega | (simp; omega) | simp) (by first | omega | (simp; omega) | simp) | exact o_app1 rfl rfl rfl rfl rfl (by first | exact o_many rfl | exact o_one _ _ rfl) (by exact rfl) (by first | omega | (simp; omega) | simp) (by first | omega | (simp; omega) | simp) | exact o_app0 rfl rfl rfl rfl rfl (by first | exact o_many rfl | exact o_one _ _ rfl) (by first | omega | (simp; omega) | simp) (by first | omega | (simp; omega) | simp) | exact o_bsl0 rfl rfl rfl | exact z_bsll rfl rfl rfl rfl rfl rfl rfl rfl rfl | exact z_alloc rfl rfl rfl | exact o_alloc zero_Opn rfl rfl | exact o_alloc zero_Ans rfl rfl | exact o_bsll zero_Ans rfl rfl rfl rfl rfl rfl rfl rfl | exact o_bsll zero_Opn rfl rfl rfl rfl rfl rfl rfl rfl)); (focus (first | exact want_n | exact want_g rfl (by with_reducible rfl)))) | (apply Ws; (focus (exact ok_store tabT (d := none) rfl rfl rfl rfl rfl rfl rfl rfl rfl rfl)); (focus (first | exact want_n | exact want_g rfl (by with_reducible rfl)))) | (refine Wskip (by first | exact want_f rfl (by with_reducible exact b_nt) | exact want_f rfl (by with_reducible exact b_nf) | exact want_t rfl) rfl ?_) | refine Wgt rfl rfl (by first | assumption | omega | exact rfl) ?_ | refine Wgf rfl rfl (by first | assumption | omega | exact rfl) ?_ | (refine Wgb rfl rfl (by with_reducible assumption) ?_) | (refine cb_is _ (by assumption) ?_)))
    (try refine AW_seq ?_)
    refine AW_yield hX [_, _, _] [_] rfl rfl rfl ?_
    refine wM ?_
    refine ⟨[entsA (mdDo (mdF l ops j).1 ops[j]).1, (mdDo (mdF l ops j).1 ops[j]).2.av], [entsA (mdDo (mdF l ops j).1 ops[j]).1, (mdDo (mdF l ops j).1 ops[j]).2.av], hRun (mdF l ops j).1 (mdF l ops j).2, .v (.bool true), hRun (mdDo (mdF l ops j).1 ops[j]).1 ((mdF l ops j).2 ++ [(mdDo (mdF l ops j).1 ops[j]).2]), rfl, rfl, rfl, .cons (.inl ⟨rfl, rfl⟩) (.cons (.inl ⟨rfl, rfl⟩) .nil), hy _ _ _ _ (by omega), ?_, (by repeat' (first | exact True.intro | rfl | apply And.intro)), (by repeat' (first | exact True.intro | rfl | apply And.intro)), rfl, rfl, rfl, ?_⟩
    · intro p hp
      simp only [bsOf, List.map_cons, List.map_nil, List.mem_cons, List.not_mem_nil, or_false] at hp
      rcases hp with rfl | rfl <;> exact ⟨rfl, rfl⟩
    have k' : (!true) = false := rfl
    refine wM ?_
    refine ⟨j + 1, by omega, by omega, ?_⟩
    rw [hs]
    (refine Go2.sub ⟨?_, ?_, ?_⟩ <;> repeat' (first | exact True.intro | rfl | apply And.intro))
  · obtain rfl : j = ops.length := by omega
    have hlt' : ¬ (ops.length : Int) < (ops.length : Nat) := by omega
    rw [mdF_end]
    refine wM ?_
    exact ⟨.inl rfl, ⟨(by repeat' (first | exact True.intro | rfl | apply And.intro)), rfl⟩, trivial⟩
set_option maxRecDepth 100000 in
set_option maxHeartbeats 4000000 in
theorem a_mrun (l : List Ent) (ops : List Opn) (h : Lf l) (hl : l.length ≤ 100000000) (ho : ops.length ≤ 100000000) : AFn Try.prog 12 [entsA l, opsA ops] (.tup [entsA (mdRun l ops).1, ansA (mdRun l ops).2]) := by
  refine AFn_range (T := [(2, .ptr 1002 0 []), (6, .ptr 1006 0 []), (11, .fn (.func 45) [] [.ptr 1003 0 [], .ptr 1012 0 []])]) (H := hIt l [] ops) (H' := hIt (mdRun l ops).1 (mdRun l ops).2 ops) (gs := [(2, 1002), (6, 1006)])
    Try.func12 rfl Try.ntmps12 rfl (by simp) [_, _] rfl (fun E => ?_) rfl Try.func45 (by decide +kernel) (by decide +kernel) (by repeat' (first | exact True.intro | rfl | apply And.intro)) rfl rfl (fun p hp => ?_) (fun fn lc D bk tm hnt ht => c_done1 l ops h hl ho (fun l' a l0 outs hb => ?_)) (by repeat' (first | exact True.intro | rfl | apply And.intro)) rfl rfl (by repeat' (first | exact True.intro | rfl | apply And.intro)) rfl (fun p hp => ?_) (fun E => ?_)
  · repeat (first | refine Wend _ ?_ | refine AW_seq ?_ | refine AW_reg ?_ | refine AW_drw mixed ?_ | refine AW_block ?_ | refine AW_scope ?_ | refine thenA_n ?_ | refine blockA_n ?_ | refine blockA_h ?_ | refine scopeA_n ?_ | refine thenA_r ?_ | refine blockA_r ?_ | refine scopeA_r ?_ | refine thenA_e ?_ | refine scopeA_e ?_ | refine blockA_e rfl ?_ | refine AW_exit ?_ | refine AW_ret ?_ | refine AW_skip ?_ | refine AW_c rfl ?_ | with_reducible refine cb_t ?_ | with_reducible refine cb_f ?_ | with_reducible refine cb_yes (by first | assumption | omega) ?_ | with_reducible refine cb_no (by first | assumption | omega) ?_ | refine And.intro (by decide +kernel) ?_)
    (apply Wb; (focus (exact o_boxg 1002 rfl rfl rfl rfl)); (focus (first | exact want_n | exact want_g rfl (by with_reducible rfl))))
    refine wM ?_
    (apply Wb; (focus (exact o_allocg 1006 zero_slans rfl rfl)); (focus (first | exact want_n | exact want_g rfl (by with_reducible rfl))))
    refine wM ?_
    have c0 := c_done l ops
    have d0 := ccall Try.func30 (c0) (by decide +kernel) (by decide +kernel)
    (apply Wc; (focus (exact o_ccall [(3, 1003), (2, 1012)] d0 rfl rfl rfl rfl (by repeat (first | exact .nil | refine .cons (.inl ⟨rfl, rfl⟩) ?_ | refine .cons (.inr ⟨rfl, fun _ => Wk.tok⟩) ?_)) (by repeat' (first | exact True.intro | rfl | apply And.intro)) (by repeat' (first | exact True.intro | rfl | apply And.intro)) rfl rfl rfl)); (focus (first | exact want_n | exact want_g rfl (by with_reducible rfl))))
    refine wM ?_
    refine ⟨rfl, (Go2.tokenB 1006 1020 18 43 rfl rfl).trans ?_⟩
    (refine Go2.sub ⟨?_, ?_, ?_⟩ <;> repeat' (first | exact True.intro | rfl | apply And.intro))
  · simp only [List.mem_cons, List.not_mem_nil, or_false] at hp
    rcases hp with rfl | rfl <;> rfl
  · refine YFn_intro (Ha := [(1008, .var a.av)] ++ hRun l0 outs) (Hb := [(1008, .var a.av)] ++ hRun l' (outs ++ [a])) (Ta := [(2, .ptr 1002 0 []), (6, .ptr 1006 0 []), (7, entsA l'), (8, .ptr 1008 0 [])]) hnt (by decide) (by decide) (by decide) ht rfl (fun F n E hF => ?_) (by repeat' (first | exact True.intro | rfl | apply And.intro)) rfl (fun p hp => ?_) (fun F n E hF => ?_) (by repeat' (first | exact True.intro | rfl | apply And.intro)) rfl (by repeat' (first | exact True.intro | rfl | apply And.intro)) rfl
    · iterate 6 (first | (first | refine Wend _ ?_ | refine AWR_seq ?_ | refine AWR_reg hF rfl ?_ | refine AWR_block ?_ | refine thenA_n ?_ | refine blockA_n ?_ | refine AWR_skip ?_) | (first | (apply Wv; (focus (first | exact step_ok rfl rfl | exact o_idx rfl rfl rfl rfl (by first | assumption | omega | decide) | exact o_idx3 rfl rfl rfl rfl (by first | assumption | omega | decide) | exact o_idx2 rfl rfl rfl rfl rfl (by first | assumption | omega | decide) | exact o_idxr rfl rfl rfl rfl rfl rfl | exact o_lenm rfl rfl rfl | exact o_len rfl rfl rfl | exact o_len0 rfl rfl rfl | exact o_lens rfl rfl rfl | exact o_lent rfl rfl | exact o_add1 rfl rfl rfl (by omega) | exact o_addn rfl rfl rfl (by omega) | exact o_add rfl rfl rfl (by omega) | exact o_sub1 rfl rfl rfl (by omega) | exact o_sub rfl rfl rfl (by omega) | exact o_mul rfl rfl rfl (by omega) | exact o_rem rfl rfl rfl (by omega) | exact ok_rem rfl rfl rfl (by decide) rfl | exact o_eqKey rfl rfl rfl | exact o_neKey rfl rfl rfl | exact o_eqVl rfl rfl rfl | exact o_neVl rfl rfl rfl | exact o_eqEnt rfl rfl rfl | exact o_neEnt rfl rfl rfl | exact o_eqMsg rfl rfl rfl | exact o_neMsg rfl rfl rfl | exact o_acall rfl rfl rfl rfl (by assumption) | exact o_minn rfl rfl rfl | exact o_cutl rfl rfl rfl rfl (by omega) | exact o_cuth rfl rfl rfl rfl (by omega) | exact o_cutl3 rfl rfl rfl rfl (by omega) | exact o_cuth3 rfl rfl rfl rfl (by omega) | exact o_cutl2 rfl rfl rfl rfl rfl (by omega) | exact o_cuth2 rfl rfl rfl rfl rfl (by omega) | exact o_cutlh2 rfl rfl rfl rfl rfl rfl rfl (by omega) (by omega) | exact o_bld zero_Opn rfl rfl rfl rfl rfl rfl rfl | exact o_bld zero_Ans rfl rfl rfl rfl rfl rfl rfl | exact o_eqAns rfl rfl rfl | exact o_neAns rfl rfl rfl | exact e_bld rfl rfl rfl | exact e_bldk rfl rfl | exact z_bld0 rfl rfl rfl rfl rfl | exact z_bld rfl rfl rfl rfl rfl rfl rfl | exact o_addu rfl rfl rfl | exact z_blda rfl rfl rfl rfl rfl rfl rfl rfl rfl | exact o_idxa rfl rfl rfl rfl rfl rfl | exact o_idxra rfl rfl rfl rfl rfl rfl rfl | exact o_quo2 rfl rfl rfl (by omega) | exact o_quo rfl rfl rfl (by omega))); (focus (first | exact want_n | exact want_g rfl (by with_reducible rfl)))) | (apply Wb; (focus (first | exact o_box rfl rfl rfl rfl | exact o_app rfl rfl rfl rfl rfl (by first | exact o_many rfl | exact o_one _ _ rfl) (by first | omega | (simp; omega) | simp) (by first | omega | (simp; omega) | simp) | exact o_appn rfl rfl rfl rfl rfl (by first | exact o_many rfl | exact o_one _ _ rfl) (by first | omega | (simp; omega) | simp) (by first | omega | (simp; omega) | simp) | exact o_app1 rfl rfl rfl rfl rfl (by first | exact o_many rfl | exact o_one _ _ rfl) (by exact rfl) (by first | omega | (simp; omega) | simp) (by first | omega | (simp; omega) | simp) | exact o_app0 rfl rfl rfl rfl rfl (by first | exact o_many rfl | exact o_one _ _ rfl) (by first | omega | (simp; omega) | simp) (by first | omega | (simp; omega) | simp) | exact o_bsl0 rfl rfl rfl | exact z_bsll rfl rfl rfl rfl rfl rfl rfl rfl rfl | exact z_alloc rfl rfl rfl | exact o_alloc zero_Opn rfl rfl | exact o_alloc zero_Ans rfl rfl | exact o_bsll zero_Ans rfl rfl rfl rfl rfl rfl rfl rfl | exact o_bsll zero_Opn rfl rfl rfl rfl rfl rfl rfl rfl)); (focus (first | exact want_n | exact want_g rfl (by with_reducible rfl)))) | (apply Ws; (focus (exact ok_store tabT (d := none) rfl rfl rfl rfl rfl rfl rfl rfl rfl rfl)); (focus (first | exact want_n | exact want_g rfl (by with_reducible rfl)))) | (refine Wskip (by first | exact want_f rfl (by with_reducible exact b_nt) | exact want_f rfl (by with_reducible exact b_nf) | exact want_t rfl) rfl ?_) | refine Wgt rfl rfl (by first | assumption | omega | exact rfl) ?_ | refine Wgf rfl rfl (by first | assumption | omega | exact rfl) ?_ | (refine Wgb rfl rfl (by with_reducible assumption) ?_) | (refine cb_is _ (by assumption) ?_)))
      (apply Wb; (focus (exact o_allocg 1008 zero_Ans rfl rfl)); (focus (first | exact want_n | exact want_g rfl (by with_reducible rfl))))
      repeat (first | (first | refine Wend _ ?_ | refine AWR_seq ?_ | refine AWR_reg hF rfl ?_ | refine AWR_block ?_ | refine thenA_n ?_ | refine blockA_n ?_ | refine AWR_skip ?_) | (first | (apply Wv; (focus (first | exact step_ok rfl rfl | exact o_idx rfl rfl rfl rfl (by first | assumption | omega | decide) | exact o_idx3 rfl rfl rfl rfl (by first | assumption | omega | decide) | exact o_idx2 rfl rfl rfl rfl rfl (by first | assumption | omega | decide) | exact o_idxr rfl rfl rfl rfl rfl rfl | exact o_lenm rfl rfl rfl | exact o_len rfl rfl rfl | exact o_len0 rfl rfl rfl | exact o_lens rfl rfl rfl | exact o_lent rfl rfl | exact o_add1 rfl rfl rfl (by omega) | exact o_addn rfl rfl rfl (by omega) | exact o_add rfl rfl rfl (by omega) | exact o_sub1 rfl rfl rfl (by omega) | exact o_sub rfl rfl rfl (by omega) | exact o_mul rfl rfl rfl (by omega) | exact o_rem rfl rfl rfl (by omega) | exact ok_rem rfl rfl rfl (by decide) rfl | exact o_eqKey rfl rfl rfl | exact o_neKey rfl rfl rfl | exact o_eqVl rfl rfl rfl | exact o_neVl rfl rfl rfl | exact o_eqEnt rfl rfl rfl | exact o_neEnt rfl rfl rfl | exact o_eqMsg rfl rfl rfl | exact o_neMsg rfl rfl rfl | exact o_acall rfl rfl rfl rfl (by assumption) | exact o_minn rfl rfl rfl | exact o_cutl rfl rfl rfl rfl (by omega) | exact o_cuth rfl rfl rfl rfl (by omega) | exact o_cutl3 rfl rfl rfl rfl (by omega) | exact o_cuth3 rfl rfl rfl rfl (by omega) | exact o_cutl2 rfl rfl rfl rfl rfl (by omega) | exact o_cuth2 rfl rfl rfl rfl rfl (by omega) | exact o_cutlh2 rfl rfl rfl rfl rfl rfl rfl (by omega) (by omega) | exact o_bld zero_Opn rfl rfl rfl rfl rfl rfl rfl | exact o_bld zero_Ans rfl rfl rfl rfl rfl rfl rfl | exact o_eqAns rfl rfl rfl | exact o_neAns rfl rfl rfl | exact e_bld rfl rfl rfl | exact e_bldk rfl rfl | exact z_bld0 rfl rfl rfl rfl rfl | exact z_bld rfl rfl rfl rfl rfl rfl rfl | exact o_addu rfl rfl rfl | exact z_blda rfl rfl rfl rfl rfl rfl rfl rfl rfl | exact o_idxa rfl rfl rfl rfl rfl rfl | exact o_idxra rfl rfl rfl rfl rfl rfl rfl | exact o_quo2 rfl rfl rfl (by omega) | exact o_quo rfl rfl rfl (by omega))); (focus (first | exact want_n | exact want_g rfl (by with_reducible rfl)))) | (apply Wb; (focus (first | exact o_box rfl rfl rfl rfl | exact o_app rfl rfl rfl rfl rfl (by first | exact o_many rfl | exact o_one _ _ rfl) (by first | omega | (simp; omega) | simp) (by first | omega | (simp; omega) | simp) | exact o_appn rfl rfl rfl rfl rfl (by first | exact o_many rfl | exact o_one _ _ rfl) (by first | omega | (simp; omega) | simp) (by first | omega | (simp; omega) | simp) | exact o_app1 rfl rfl rfl rfl rfl (by first | exact o_many rfl | exact o_one _ _ rfl) (by exact rfl) (by first | omega | (simp; omega) | simp) (by first | omega | (simp; omega) | simp) | exact o_app0 rfl rfl rfl rfl rfl (by first | exact o_many rfl | exact o_one _ _ rfl) (by first | omega | (simp; omega) | simp) (by first | omega | (simp; omega) | simp) | exact o_bsl0 rfl rfl rfl | exact z_bsll rfl rfl rfl rfl rfl rfl rfl rfl rfl | exact z_alloc rfl rfl rfl | exact o_alloc zero_Opn rfl rfl | exact o_alloc zero_Ans rfl rfl | exact o_bsll zero_Ans rfl rfl rfl rfl rfl rfl rfl rfl | exact o_bsll zero_Opn rfl rfl rfl rfl rfl rfl rfl rfl)); (focus (first | exact want_n | exact want_g rfl (by with_reducible rfl)))) | (apply Ws; (focus (exact ok_store tabT (d := none) rfl rfl rfl rfl rfl rfl rfl rfl rfl rfl)); (focus (first | exact want_n | exact want_g rfl (by with_reducible rfl)))) | (refine Wskip (by first | exact want_f rfl (by with_reducible exact b_nt) | exact want_f rfl (by with_reducible exact b_nf) | exact want_t rfl) rfl ?_) | refine Wgt rfl rfl (by first | assumption | omega | exact rfl) ?_ | refine Wgf rfl rfl (by first | assumption | omega | exact rfl) ?_ | (refine Wgb rfl rfl (by with_reducible assumption) ?_) | (refine cb_is _ (by assumption) ?_)))
      exact ⟨rfl, ⟨(by repeat' (first | exact True.intro | rfl | apply And.intro)), (by repeat' (first | exact True.intro | rfl | apply And.intro)), rfl⟩⟩
    · simp only [List.mem_cons, List.not_mem_nil, or_false] at hp
      rcases hp with rfl | rfl | rfl | rfl <;> rfl
    · repeat (first | (first | refine Wend _ ?_ | refine AWR_seq ?_ | refine AWR_reg hF rfl ?_ | refine AWR_block ?_ | refine thenA_n ?_ | refine blockA_n ?_ | refine AWR_skip ?_) | (first | (apply Wv; (focus (first | exact step_ok rfl rfl | exact o_idx rfl rfl rfl rfl (by first | assumption | omega | decide) | exact o_idx3 rfl rfl rfl rfl (by first | assumption | omega | decide) | exact o_idx2 rfl rfl rfl rfl rfl (by first | assumption | omega | decide) | exact o_idxr rfl rfl rfl rfl rfl rfl | exact o_lenm rfl rfl rfl | exact o_len rfl rfl rfl | exact o_len0 rfl rfl rfl | exact o_lens rfl rfl rfl | exact o_lent rfl rfl | exact o_add1 rfl rfl rfl (by omega) | exact o_addn rfl rfl rfl (by omega) | exact o_add rfl rfl rfl (by omega) | exact o_sub1 rfl rfl rfl (by omega) | exact o_sub rfl rfl rfl (by omega) | exact o_mul rfl rfl rfl (by omega) | exact o_rem rfl rfl rfl (by omega) | exact ok_rem rfl rfl rfl (by decide) rfl | exact o_eqKey rfl rfl rfl | exact o_neKey rfl rfl rfl | exact o_eqVl rfl rfl rfl | exact o_neVl rfl rfl rfl | exact o_eqEnt rfl rfl rfl | exact o_neEnt rfl rfl rfl | exact o_eqMsg rfl rfl rfl | exact o_neMsg rfl rfl rfl | exact o_acall rfl rfl rfl rfl (by assumption) | exact o_minn rfl rfl rfl | exact o_cutl rfl rfl rfl rfl (by omega) | exact o_cuth rfl rfl rfl rfl (by omega) | exact o_cutl3 rfl rfl rfl rfl (by omega) | exact o_cuth3 rfl rfl rfl rfl (by omega) | exact o_cutl2 rfl rfl rfl rfl rfl (by omega) | exact o_cuth2 rfl rfl rfl rfl rfl (by omega) | exact o_cutlh2 rfl rfl rfl rfl rfl rfl rfl (by omega) (by omega) | exact o_bld zero_Opn rfl rfl rfl rfl rfl rfl rfl | exact o_bld zero_Ans rfl rfl rfl rfl rfl rfl rfl | exact o_eqAns rfl rfl rfl | exact o_neAns rfl rfl rfl | exact e_bld rfl rfl rfl | exact e_bldk rfl rfl | exact z_bld0 rfl rfl rfl rfl rfl | exact z_bld rfl rfl rfl rfl rfl rfl rfl | exact o_addu rfl rfl rfl | exact z_blda rfl rfl rfl rfl rfl rfl rfl rfl rfl | exact o_idxa rfl rfl rfl rfl rfl rfl | exact o_idxra rfl rfl rfl rfl rfl rfl rfl | exact o_quo2 rfl rfl rfl (by omega) | exact o_quo rfl rfl rfl (by omega))); (focus (first | exact want_n | exact want_g rfl (by with_reducible rfl)))) | (apply Wb; (focus (first | exact o_box rfl rfl rfl rfl | exact o_app rfl rfl rfl rfl rfl (by first | exact o_many rfl | exact o_one _ _ rfl) (by first | omega | (simp; omega) | simp) (by first | omega | (simp; omega) | simp) | exact o_appn rfl rfl rfl rfl rfl (by first | exact o_many rfl | exact o_one _ _ rfl) (by first | omega | (simp; omega) | simp) (by first | omega | (simp; omega) | simp) | exact o_app1 rfl rfl rfl rfl rfl (by first | exact o_many rfl | exact o_one _ _ rfl) (by exact rfl) (by first | omega | (simp; omega) | simp) (by first | omega | (simp; omega) | simp) | exact o_app0 rfl rfl rfl rfl rfl (by first | exact o_many rfl | exact o_one _ _ rfl) (by first | omega | (simp; omega) | simp) (by first | omega | (simp; omega) | simp) | exact o_bsl0 rfl rfl rfl | exact z_bsll rfl rfl rfl rfl rfl rfl rfl rfl rfl | exact z_alloc rfl rfl rfl | exact o_alloc zero_Opn rfl rfl | exact o_alloc zero_Ans rfl rfl | exact o_bsll zero_Ans rfl rfl rfl rfl rfl rfl rfl rfl | exact o_bsll zero_Opn rfl rfl rfl rfl rfl rfl rfl rfl)); (focus (first | exact want_n | exact want_g rfl (by with_reducible rfl)))) | (apply Ws; (focus (exact ok_store tabT (d := none) rfl rfl rfl rfl rfl rfl rfl rfl rfl rfl)); (focus (first | exact want_n | exact want_g rfl (by with_reducible rfl)))) | (refine Wskip (by first | exact want_f rfl (by with_reducible exact b_nt) | exact want_f rfl (by with_reducible exact b_nf) | exact want_t rfl) rfl ?_) | refine Wgt rfl rfl (by first | assumption | omega | exact rfl) ?_ | refine Wgf rfl rfl (by first | assumption | omega | exact rfl) ?_ | (refine Wgb rfl rfl (by with_reducible assumption) ?_) | (refine cb_is _ (by assumption) ?_)))
      exact ⟨rfl, ⟨(by repeat' (first | exact True.intro | rfl | apply And.intro)), rfl⟩⟩
  · simp only [List.mem_cons, List.not_mem_nil, or_false] at hp
    rcases hp with rfl | rfl | rfl <;> rfl
  · refine wM ?_
    exact ⟨.inr rfl, res_sl rfl, res_sl rfl, trivial⟩
end Go.Proofs.Ytofcabhahdecdaa

namespace Go.Proofs.Ytofcabhahdecdaa
open Go Go.RowKit
set_option linter.unusedVariables false
set_option linter.unusedSimpArgs false
set_option maxRecDepth 100000

theorem lfAll_snoc (l : List Ent) (ms : List Msg) (j : Nat) (h : j < ms.length) : lfAll l (ms.take (j + 1)) = lfPut (lfAll l (ms.take j)) ms[j] := by
  unfold lfAll
  rw [← List.take_append_getElem h, List.foldl_append]
  rfl
def EBd (l : List Ent) : Prop := ∀ e ∈ l, (0 ≤ e.key.n ∧ e.key.n ≤ 8) ∧ (0 ≤ e.val.n ∧ e.val.n ≤ 16)
theorem EOk.bd {l : List Ent} (h : EOk l) : EBd l := fun e he => ⟨Key.n_le (h e he).1, Vl.n_le (h e he).2⟩
theorem eSum_nil : eSum [] = 0 := rfl
theorem eSum_append (a b : List Ent) : eSum (a ++ b) = eSum a + eSum b := by simp [eSum]
theorem eSum_snoc (l : List Ent) (j : Nat) (h : j < l.length) : eSum (l.take (j + 1)) = eSum (l.take j) + l[j].size := by
  rw [← List.take_append_getElem h, eSum_append]
  simp [eSum]
theorem EBd.sum : ∀ {l : List Ent}, EBd l → 2 * (l.length : Int) ≤ eSum l ∧ eSum l ≤ 26 * (l.length : Int)
  | [], _ => by simp [eSum]
  | e :: l, h => by
    have h1 := EBd.sum (l := l) (fun x hx => h x (List.mem_cons_of_mem _ hx))
    have h2 := h e (by simp)
    have h3 : eSum (e :: l) = e.size + eSum l := by simp [eSum]
    unfold Ent.size at h3
    rw [h3]
    simp only [List.length_cons]
    omega
theorem EBd.take {l : List Ent} (h : EBd l) (j : Nat) : EBd (l.take j) := fun e he => h e (List.mem_of_mem_take he)
theorem EBd.drop {l : List Ent} (h : EBd l) (j : Nat) : EBd (l.drop j) := fun e he => h e (List.mem_of_mem_drop he)
/-- entries of a leaf, by neighbours -/
def EntsOk (cmp : Key → Key → Int) (l : List Ent) : Prop := ∀ j (h : j < l.length), l[j].key.ok = true ∧ l[j].val.ok = true ∧ ∀ i (hi : i + 1 = j), cmp (l[i]'(by omega)).key l[j].key < 0
noncomputable def entsOkB (cmp : Key → Key → Int) (l : List Ent) : Bool := @decide (EntsOk cmp l) (Classical.propDecidable _)
theorem entsOkB_true {cmp : Key → Key → Int} {l : List Ent} (h : EntsOk cmp l) : entsOkB cmp l = true := by unfold entsOkB; exact @decide_eq_true _ (Classical.propDecidable _) h
theorem entsOkB_false {cmp : Key → Key → Int} {l : List Ent} (h : ¬ EntsOk cmp l) : entsOkB cmp l = false := by unfold entsOkB; exact @decide_eq_false _ (Classical.propDecidable _) h
theorem entsOk_ref (l : List Ent) : EntsOk refCmp l ↔ EntsOk keyCmp l := by
  constructor <;>
  · intro h j hj
    obtain ⟨h1, h2, h3⟩ := h j hj
    refine ⟨h1, h2, fun i hi => ?_⟩
    have := h3 i hi
    first
      | rwa [refCmp_key (h i (by omega)).1 h1] at this
      | rwa [refCmp_key (h i (by omega)).1 h1]
theorem entsOkB_ref (l : List Ent) : entsOkB refCmp l = entsOkB keyCmp l := by
  by_cases c : EntsOk keyCmp l
  · rw [entsOkB_true c, entsOkB_true ((entsOk_ref l).2 c)]
  · rw [entsOkB_false c, entsOkB_false (fun h => c ((entsOk_ref l).1 h))]
theorem Lf.ents {l : List Ent} (h : Lf l) : EntsOk keyCmp l := fun j hj => ⟨(h.ok _ (List.getElem_mem hj)).1, (h.ok _ (List.getElem_mem hj)).2, fun i hi => by
  rw [keyCmp_rank, sgn_neg]; exact h.srt.lt (by omega) hj (by omega)⟩
theorem EntsOk.eok {cmp : Key → Key → Int} {l : List Ent} (h : EntsOk cmp l) : EOk l := fun e he => by
  obtain ⟨j, hj, rfl⟩ := List.mem_iff_getElem.1 he
  exact ⟨(h j hj).1, (h j hj).2.1⟩
attribute [local irreducible] OpOK AWops AW CondB Go2 AFn thenA inBlockA noGotoA orderOk wantedA
set_option maxRecDepth 100000 in
set_option maxHeartbeats 8000000 in
theorem a_ref07bytes (l : List Ent) (h : EBd l) (hl : l.length ≤ 100000000) : AFn Try.prog 28 [entsA l] (intA (eSum l)) := by
  refine AFn_intro Try.func28 rfl Try.ntmps28 rfl (by simp) [_] rfl fun E hE => ?_
  refine wB ?_
  refine AW_loopI (fun j : Nat => ⟨[(0, entsA l), (3, intA (eSum (l.take j))), (4, intA j)], []⟩) (fun j => j ≤ l.length) (fun j => l.length - j) 0 (Nat.zero_le _) (by (refine Go2.sub ⟨?_, ?_, ?_⟩ <;> repeat' (first | exact True.intro | rfl | apply And.intro))) (fun j hj => ?_)
  have hb := (h.take j).sum
  rw [List.length_take] at hb
  by_cases c : j < l.length
  · have hs : eSum (l.take (j + 1)) = eSum (l.take j) + 2 + l[j].key.n + l[j].val.n := by
      rw [eSum_snoc l j c]; unfold Ent.size; omega
    have he := h l[j] (List.getElem_mem c)
    refine wB ?_
    refine ⟨j + 1, c, by omega, ?_⟩
    rw [hs]
    (refine Go2.sub ⟨?_, ?_, ?_⟩ <;> repeat' (first | exact True.intro | rfl | apply And.intro))
  · obtain rfl : j = l.length := by omega
    rw [List.take_length]
    refine wB ?_
    exact fin ⟨res_of rfl rfl rfl, trivial⟩
set_option maxRecDepth 100000 in
set_option maxHeartbeats 8000000 in
theorem a_ref07same (l : List Ent) (hl : l.length ≤ 100000000) : AFn Try.prog 25 [entsA l, entsA l] (boolA true) := by
  refine AFn_intro Try.func25 rfl Try.ntmps25 rfl (by simp) [_] rfl fun E hE => ?_
  refine wL ?_
  refine AW_loopI (fun j : Nat => ⟨[(0, entsA l), (1, entsA l), (5, intA j)], []⟩) (fun j => j ≤ l.length) (fun j => l.length - j) 0 (Nat.zero_le _) (by (refine Go2.sub ⟨?_, ?_, ?_⟩ <;> repeat' (first | exact True.intro | rfl | apply And.intro))) (fun j hj => ?_)
  by_cases c : j < l.length
  · have hs : ¬ l[j] ≠ l[j] := fun h => h rfl
    refine wL ?_
    refine ⟨j + 1, c, by omega, ?_⟩
    (refine Go2.sub ⟨?_, ?_, ?_⟩ <;> repeat' (first | exact True.intro | rfl | apply And.intro))
  · refine wL ?_
    exact fin ⟨res_of rfl rfl rfl, trivial⟩
end Go.Proofs.Ytofcabhahdecdaa

namespace Go.Proofs.Ytofcabhahdecdaa
open Go Go.RowKit
set_option linter.unusedVariables false
set_option linter.unusedSimpArgs false
set_option maxRecDepth 100000

def entMsg (x : Int) : Msg := ⟨1, 0#64, lawKey (x % 1099511627776), lawVl (x % 1099511627776 / 16), 0#64⟩
theorem entMsg_ok (x : Int) : (entMsg x).ok = true := by
  unfold Msg.ok entMsg
  simp [lawKey_ok, lawVl_ok]
def entStep (most : Int) (out : List Ent) (x : Int) : List Ent := if eSum (lfPut out (entMsg x)) ≤ most then lfPut out (entMsg x) else out
def entsF (l : List Int) (most : Int) (j : Nat) : List Ent := (l.take j).foldl (entStep most) []
def entList (l : List Int) (most : Int) : List Ent := entsF l most 80
theorem entsF_snoc (l : List Int) (most : Int) (j : Nat) (h : j < l.length) : entsF l most (j + 1) = entStep most (entsF l most j) l[j] := by
  unfold entsF
  rw [← List.take_append_getElem h, List.foldl_append]
  rfl
theorem entStep_lf {most : Int} {out : List Ent} {x : Int} (h : Lf out) : Lf (entStep most out x) := by
  unfold entStep
  split
  · exact lf_put h (entMsg_ok x)
  · exact h
theorem entsF_lf (l : List Int) (most : Int) : ∀ j, Lf (entsF l most j) := by
  unfold entsF
  intro j
  have : ∀ (xs : List Int) (out : List Ent), Lf out → Lf (xs.foldl (entStep most) out) := by
    intro xs
    induction xs with
    | nil => intro out h; exact h
    | cons x xs ih => intro out h; exact ih _ (entStep_lf h)
  exact this _ _ lf_nil
theorem entsF_len (l : List Int) (most : Int) (j : Nat) : (entsF l most j).length ≤ j := by
  unfold entsF
  have : ∀ (xs : List Int) (out : List Ent), (xs.foldl (entStep most) out).length ≤ out.length + xs.length := by
    intro xs
    induction xs with
    | nil => intro out; simp
    | cons x xs ih =>
      intro out
      have h1 := ih (entStep most out x)
      have h2 : (entStep most out x).length ≤ out.length + 1 := by
        unfold entStep
        split
        · exact put_len _ _
        · omega
      simp only [List.foldl_cons, List.length_cons]
      omega
  have h := this (l.take j) []
  simp only [List.length_nil, List.length_take] at h
  omega
theorem entsF_sum (l : List Int) (most : Int) (h0 : 0 ≤ most) (j : Nat) : eSum (entsF l most j) ≤ most := by
  unfold entsF
  have : ∀ (xs : List Int) (out : List Ent), eSum out ≤ most → eSum (xs.foldl (entStep most) out) ≤ most := by
    intro xs
    induction xs with
    | nil => intro out h; exact h
    | cons x xs ih =>
      intro out h
      refine ih _ ?_
      unfold entStep
      split
      · assumption
      · exact h
  exact this _ _ h0
theorem entList_end (l : List Int) (most : Int) (j : Nat) (h : j = 80 ∨ (j = l.length ∧ j ≤ 80)) : entsF l most j = entList l most := by
  unfold entList entsF
  rcases h with h | ⟨h1, h2⟩
  · rw [h]
  · rw [List.take_of_length_le (by omega), List.take_of_length_le (by omega)]
theorem entList_lf (l : List Int) (most : Int) : Lf (entList l most) := entsF_lf l most 80
theorem entList_len (l : List Int) (most : Int) : (entList l most).length ≤ 80 := entsF_len l most 80
attribute [local irreducible] OpOK AWops AW CondB Go2 AFn thenA inBlockA noGotoA orderOk wantedA
set_option maxRecDepth 100000 in
set_option maxHeartbeats 8000000 in
theorem a_entries (l : List Int) (most : Int) (hb : ∀ n ∈ l, -9223372036854775808 ≤ n ∧ n ≤ 9223372036854775807) : AFn Try.prog 9 [intsA l, intA most] (entsA (entList l most)) := by
  refine AFn_intro Try.func9 rfl Try.ntmps9 rfl (by simp) [_] rfl fun E hE => ?_
  refine wL ?_
  refine AW_go (Go2.nil 5 26 rfl) ?_
  refine AW_loopI (fun j : Nat => ⟨[(0, intsA l), (1, intA most), (5, entsA (entsF l most j)), (6, intA j)], []⟩) (fun j => j ≤ l.length ∧ j ≤ 80) (fun j => l.length - j) 0 ⟨Nat.zero_le _, by omega⟩ (by (refine Go2.sub ⟨?_, ?_, ?_⟩ <;> repeat' (first | exact True.intro | rfl | apply And.intro))) (fun j hj => ?_)
  obtain ⟨j1, j2⟩ := hj
  by_cases c : j < l.length
  · by_cases q : j < 80
    · have hx := hb l[j] (List.getElem_mem c)
      have hs := entsF_snoc l most j c
      have hlf := entsF_lf l most j
      have hlen := entsF_len l most j
      have hlf2 := lf_put hlf (entMsg_ok l[j])
      have hlen2 := put_len (entsF l most j) (entMsg l[j])
      have hm := a_ref07put (entsF l most j) (entMsg l[j]) hlf (Msg.spec (entMsg_ok l[j])).2.2.1 (by omega)
      have hy := a_ref07bytes (lfPut (entsF l most j) (entMsg l[j])) hlf2.ok.bd (by omega)
      have k0 := Int.emod_nonneg l[j] (show (1099511627776 : Int) ≠ 0 by omega)
      have k1 := Int.emod_lt_of_pos l[j] (show (0 : Int) < 1099511627776 by omega)
      unfold entStep at hs
      unfold entMsg at hm hy hs
      have p1 := a_lplace l[j] 1099511627776 (by omega) (by omega) hx
      generalize l[j] % 1099511627776 = k at p1 k0 k1 hm hy hs
      have p2 := a_lkey k (by omega)
      have p3 := a_lval (k / 16) (by omega)
      generalize lfPut (entsF l most j) ⟨1, 0#64, lawKey k, lawVl (k / 16), 0#64⟩ = more at hm hy hs
      have d1 := acall Try.func11 (p1) (by decide +kernel) (by decide +kernel)
      have d2 := acall Try.func19 (p2) (by decide +kernel) (by decide +kernel)
      have d3 := acall Try.func27 (p3) (by decide +kernel) (by decide +kernel)
      have d4 := acall Try.func26 (hm) (by decide +kernel) (by decide +kernel)
      have d5 := acall Try.func28 (hy) (by decide +kernel) (by decide +kernel)
      by_cases z : eSum more ≤ most
      · rw [if_pos z] at hs
        refine wL ?_
        refine ⟨j + 1, ⟨c, q⟩, by omega, ?_⟩
        rw [hs]
        (refine Go2.sub ⟨?_, ?_, ?_⟩ <;> repeat' (first | exact True.intro | rfl | apply And.intro))
      · rw [if_neg z] at hs
        refine wL ?_
        refine ⟨j + 1, ⟨c, q⟩, by omega, ?_⟩
        rw [hs]
        (refine Go2.sub ⟨?_, ?_, ?_⟩ <;> repeat' (first | exact True.intro | rfl | apply And.intro))
    · rw [← entList_end l most j (.inl (by omega))]
      refine wL ?_
      exact fin ⟨res_sl rfl, trivial⟩
  · rw [← entList_end l most j (.inr ⟨by omega, j2⟩)]
    refine wL ?_
    exact fin ⟨res_sl rfl, trivial⟩
end Go.Proofs.Ytofcabhahdecdaa
