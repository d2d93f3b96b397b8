/-
  Abs: what a function's slots and its own memory read as, in plain words: values as trees, slices as lists, variables as boxes. The relation to the model's frame and world, and how it is kept. Of no one program.
-/
import Derived.Test.YtigbkhjcboecjaaOwn
namespace Go.Proofs.Ytigbkhjcboecjaa
open Go Go.RowKit
set_option linter.unusedVariables false
set_option linter.unusedSimpArgs false

/-- what a value reads as -/
inductive AV where
  | v (x : Value)
  | agg (n : Nat) (fs : List AV)
  | arr (m n : Nat) (xs : List AV)
  | ptr (g off : Nat) (p : List Nat)
  | ref (x : AV)
  | sl (tok : Option Nat) (n : Nat) (xs : List AV)
  | seg (g off n : Nat) (p : List Nat) (len cap : Nat)
  | tup (vs : List AV)
  | fn (f : Fn) (first caps : List AV)
  | ifc (t : TypeId) (x : AV)
  deriving Inhabited
/-- a block of the function's own -/
inductive Bx where
  | var (x : AV)
  | froz (x : AV)
  | tail (e : TypeId) (n k : Nat)

/-- a value of one cell that bears no address -/
def plain : Value → Bool
  | .bool _ | .int _ _ | .string _ | .float _ _ => true
  | .pointer none | .slice none 0 0 | .map none | .nilFunc | .nilIface => true
  | _ => false
theorem plain_one : ∀ {x : Value}, plain x = true → x.oneCell' = true
  | .bool _, _ | .int _ _, _ | .string _, _ | .float _ _, _ | .pointer _, _ | .slice _ _ _, _ | .map _, _ | .nilFunc, _ | .nilIface, _ => rfl
  | .agg _, h | .tuple _, h => by simp [plain] at h
  | .complex _ _ _, h | .chan _, h | .func _ _ _, h | .iface _ _, h => by simp [plain] at h

abbrev Blk := Nat → Option Nat
abbrev Hp := Nat → Option Bx
abbrev Uns := Nat → Nat → Prop
def B0 : Blk := fun _ => none
def H0 : Hp := fun _ => none
def isVar : Option Bx → Bool
  | some (.var _) => true
  | some (.froz _) => true
  | _ => false
/-- cells that nobody will write -/
def Quiet (U : Uns) (b off n : Nat) : Prop := ∀ o, off ≤ o → o < off + n → ¬ U b o
def pack : AV → List Value → Value
  | .agg _ _, cs => .agg cs.toArray
  | .arr _ _ _, cs => .agg cs.toArray
  | _, [c] => c
  | _, _ => undef
/-- a slice that may be appended to: the row's block, if it has one, is the slice's -/
def TokOk (w : World) (B : Blk) (H : Hp) (t n len : Nat) (A : Option Addr) (cap : Nat) : Prop :=
  ∃ e k, H t = some (.tail e n k) ∧ len ≤ k ∧ (len = k → (B t = none → A = none ∧ cap = 0) ∧ ∀ b, B t = some b → A = some ⟨b, 0, none⟩ ∧ ∃ cur, w.heap[b]? = some (.cells cur e (0, 0)) ∧ cur.size = cap * n)

mutual
def Rd (U : Uns) (w : World) : AV → Blk → Hp → List Value → Prop
  | .v x, _, _, cs => plain x = true ∧ cs = [x]
  | .agg n fs, B, H, cs => cs.length = n ∧ Rds U w fs B H cs
  | .arr m n xs, _, _, cs => cs.length = m ∧ Rdu U w n xs B0 H0 cs
  | .ptr g off _, B, H, cs => isVar (H g) = true ∧ ∃ b, B g = some b ∧ cs = [.pointer (some ⟨b, off, none⟩)]
  | .ref x, _, _, cs => ∃ b off c, cs = [.pointer (some ⟨b, off, none⟩)] ∧ row? w b off c.length = some c.toArray ∧ Quiet U b off c.length ∧ Rd U w x B0 H0 c
  | .sl tok n xs, B, H, cs => ∃ A cap, cs = [.slice A xs.length cap] ∧ xs.length ≤ cap ∧ cap ≤ maxLen ∧
      (0 < xs.length → ∃ b off c, A = some ⟨b, off, none⟩ ∧ row? w b off (xs.length * n) = some c.toArray ∧ Quiet U b off (xs.length * n) ∧ Rdu U w n xs B0 H0 c) ∧
      ∀ t, tok = some t → TokOk w B H t n xs.length A cap
  | .seg g off n _ len cap, B, H, cs => isVar (H g) = true ∧ ∃ b, B g = some b ∧ cap ≤ maxLen ∧ len ≤ cap ∧ cs = [.slice (some ⟨b, off, none⟩) len cap]
  | .tup _, _, _, _ => False
  | .fn f first caps, B, H, cs => ∃ c1 c2, cs = [.func f c1.toArray c2.toArray] ∧ Rdp U w first B H c1 ∧ Rdp U w caps B H c2
  | .ifc t x, B, H, cs => ∃ c, Rd U w x B H c ∧ cs = [.iface t (pack x c)]
/-- one behind the other -/
def Rds (U : Uns) (w : World) : List AV → Blk → Hp → List Value → Prop
  | [], _, _, cs => cs = []
  | x :: xs, B, H, cs => ∃ c1 c2, cs = c1 ++ c2 ∧ Rd U w x B H c1 ∧ Rds U w xs B H c2
/-- one behind the other, each of n cells -/
def Rdu (U : Uns) (w : World) (n : Nat) : List AV → Blk → Hp → List Value → Prop
  | [], _, _, cs => cs = []
  | x :: xs, B, H, cs => ∃ c1 c2, cs = c1 ++ c2 ∧ c1.length = n ∧ Rd U w x B H c1 ∧ Rdu U w n xs B H c2
/-- values, each whole -/
def Rdp (U : Uns) (w : World) : List AV → Blk → Hp → List Value → Prop
  | [], _, _, vs => vs = []
  | x :: xs, B, H, vs => ∃ c vs', vs = pack x c :: vs' ∧ Rd U w x B H c ∧ Rdp U w xs B H vs'
end

/-- what a slot's value reads as -/
def Rdv (U : Uns) (w : World) (B : Blk) (H : Hp) : AV → Value → Prop
  | .tup xs, v => ∃ vs, v = .tuple vs.toArray ∧ Rdp U w xs B H vs
  | x, v => ∃ c, Rd U w x B H c ∧ v = pack x c

/-- of what is not unsteady nothing turns -/
structure Evo (U : Uns) (w w' : World) : Prop where
  size : w.heap.size ≤ w'.heap.size
  cell : ∀ b cs t fr, w.heap[b]? = some (.cells cs t fr) → ∃ cs', w'.heap[b]? = some (.cells cs' t fr) ∧ cs'.size = cs.size ∧ ∀ o, ¬ U b o → cs'[o]? = cs[o]?
theorem Evo.refl (U : Uns) (w : World) : Evo U w w := ⟨Nat.le_refl _, fun b cs t fr h => ⟨cs, h, rfl, fun _ _ => rfl⟩⟩
theorem Evo.row {U : Uns} {w w' : World} (e : Evo U w w') {b off n : Nat} {c : Array Value} (h : row? w b off n = some c) (q : Quiet U b off n) : row? w' b off n = some c := by
  unfold row? at h
  split at h
  · rename_i cs t fr hb
    obtain ⟨cs', hb', hs, hc⟩ := e.cell b cs t fr hb
    rw [row_block hb']
    obtain ⟨h1, h2, h3⟩ := rowOf_spec h
    unfold rowOf
    rw [if_pos (by omega)]
    congr 1
    apply Array.ext_getElem?
    intro k
    rw [Array.getElem?_extract]
    by_cases hk : k < n
    · rw [if_pos (by omega), hc _ (q _ (by omega) (by omega))]
      exact h3 k hk
    · rw [if_neg (by omega), Array.getElem?_eq_none (by omega)]
  · cases h
theorem Evo.ofExt {U : Uns} {w w' : World} (e : Ext w w') : Evo U w w' := ⟨e.size, fun b cs t fr h => ⟨cs, e.heap h, rfl, fun _ _ => rfl⟩⟩

/-- how the memory's picture may go on -/
structure Pic (w w' : World) (B B' : Blk) (H H' : Hp) : Prop where
  blk : ∀ g b, isVar (H g) = true → B g = some b → B' g = some b
  dom : ∀ g, isVar (H g) = true → isVar (H' g) = true
  tok : ∀ t n len A cap, TokOk w B H t n len A cap → TokOk w' B' H' t n len A cap
theorem Pic.refl0 (w w' : World) : Pic w w' B0 B0 H0 H0 := ⟨fun _ _ _ h => h, fun _ h => h, fun t n len A cap h => by obtain ⟨e, k, h, _⟩ := h; cases h⟩

section
variable {U U' : Uns} {w w' : World}
theorem quiet_sub (hU : ∀ b o, b < w.heap.size → U' b o → U b o) {b off n : Nat} {c : Array Value} (h : row? w b off n = some c) (q : Quiet U b off n) : Quiet U' b off n :=
  fun o h1 h2 h3 => q o h1 h2 (hU b o (row_lt h) h3)
mutual
theorem Rd_go (e : Evo U w w') (hU : ∀ b o, b < w.heap.size → U' b o → U b o) : ∀ (x : AV) {B B' : Blk} {H H' : Hp} (_ : Pic w w' B B' H H') {cs : List Value}, Rd U w x B H cs → Rd U' w' x B' H' cs
  | .v x, _, _, _, _, _, _, h => by simpa [Rd] using h
  | .agg n fs, _, _, _, _, p, _, h => by
    simp only [Rd] at h ⊢
    exact ⟨h.1, Rds_go e hU fs p h.2⟩
  | .arr m n xs, _, _, _, _, p, _, h => by
    simp only [Rd] at h ⊢
    exact ⟨h.1, Rdu_go e hU n xs (Pic.refl0 w w') h.2⟩
  | .ptr g off _, _, _, _, _, p, _, h => by
    simp only [Rd] at h ⊢
    obtain ⟨h0, b, h1, h2⟩ := h
    exact ⟨p.dom g h0, b, p.blk g b h0 h1, h2⟩
  | .ref x, _, _, _, _, _, _, h => by
    simp only [Rd] at h ⊢
    obtain ⟨b, off, c, h1, h2, h3, h4⟩ := h
    exact ⟨b, off, c, h1, e.row h2 h3, quiet_sub hU h2 h3, Rd_go e hU x (Pic.refl0 w w') h4⟩
  | .sl tok n xs, _, _, _, _, p, _, h => by
    simp only [Rd] at h ⊢
    obtain ⟨A, cap, h1, h2, h3, h4, h5⟩ := h
    refine ⟨A, cap, h1, h2, h3, fun h0 => ?_, fun t ht => p.tok _ _ _ _ _ (h5 t ht)⟩
    obtain ⟨b, off, c, k1, k2, k3, k4⟩ := h4 h0
    exact ⟨b, off, c, k1, e.row k2 k3, quiet_sub hU k2 k3, Rdu_go e hU n xs (Pic.refl0 w w') k4⟩
  | .seg g off n _ len cap, _, _, _, _, p, _, h => by
    simp only [Rd] at h ⊢
    obtain ⟨h0, b, h1, h2⟩ := h
    exact ⟨p.dom g h0, b, p.blk g b h0 h1, h2⟩
  | .tup _, _, _, _, _, _, _, h => by simp [Rd] at h
  | .fn f first caps, _, _, _, _, p, _, h => by
    simp only [Rd] at h ⊢
    obtain ⟨c1, c2, h1, h2, h3⟩ := h
    exact ⟨c1, c2, h1, Rdp_go e hU first p h2, Rdp_go e hU caps p h3⟩
  | .ifc t x, _, _, _, _, p, _, h => by
    simp only [Rd] at h ⊢
    obtain ⟨c, h1, h2⟩ := h
    exact ⟨c, Rd_go e hU x p h1, h2⟩
theorem Rds_go (e : Evo U w w') (hU : ∀ b o, b < w.heap.size → U' b o → U b o) : ∀ (xs : List AV) {B B' : Blk} {H H' : Hp} (_ : Pic w w' B B' H H') {cs : List Value}, Rds U w xs B H cs → Rds U' w' xs B' H' cs
  | [], _, _, _, _, _, _, h => by simpa [Rds] using h
  | x :: xs, _, _, _, _, p, _, h => by
    simp only [Rds] at h ⊢
    obtain ⟨c1, c2, h1, h2, h3⟩ := h
    exact ⟨c1, c2, h1, Rd_go e hU x p h2, Rds_go e hU xs p h3⟩
theorem Rdu_go (e : Evo U w w') (hU : ∀ b o, b < w.heap.size → U' b o → U b o) (n : Nat) : ∀ (xs : List AV) {B B' : Blk} {H H' : Hp} (_ : Pic w w' B B' H H') {cs : List Value}, Rdu U w n xs B H cs → Rdu U' w' n xs B' H' cs
  | [], _, _, _, _, _, _, h => by simpa [Rdu] using h
  | x :: xs, _, _, _, _, p, _, h => by
    simp only [Rdu] at h ⊢
    obtain ⟨c1, c2, h1, hn, h2, h3⟩ := h
    exact ⟨c1, c2, h1, hn, Rd_go e hU x p h2, Rdu_go e hU n xs p h3⟩
theorem Rdp_go (e : Evo U w w') (hU : ∀ b o, b < w.heap.size → U' b o → U b o) : ∀ (xs : List AV) {B B' : Blk} {H H' : Hp} (_ : Pic w w' B B' H H') {cs : List Value}, Rdp U w xs B H cs → Rdp U' w' xs B' H' cs
  | [], _, _, _, _, _, _, h => by simpa [Rdp] using h
  | x :: xs, _, _, _, _, p, _, h => by
    simp only [Rdp] at h ⊢
    obtain ⟨c, vs, h1, h2, h3⟩ := h
    exact ⟨c, vs, h1, Rd_go e hU x p h2, Rdp_go e hU xs p h3⟩
end
theorem Rdv_tup {B : Blk} {H : Hp} {xs : List AV} {v : Value} : Rdv U w B H (.tup xs) v ↔ ∃ vs, v = .tuple vs.toArray ∧ Rdp U w xs B H vs := by simp [Rdv]
theorem Rdv_not {B : Blk} {H : Hp} {x : AV} {v : Value} (hx : ∀ xs, x ≠ .tup xs) : Rdv U w B H x v ↔ ∃ c, Rd U w x B H c ∧ v = pack x c := by
  cases x <;> first | (simp [Rdv]; done) | exact absurd rfl (hx _)
theorem isTup (x : AV) : (∃ xs, x = .tup xs) ∨ ∀ xs, x ≠ .tup xs := by cases x <;> simp
theorem Rdv_go (e : Evo U w w') (hU : ∀ b o, b < w.heap.size → U' b o → U b o) {B B' : Blk} {H H' : Hp} (p : Pic w w' B B' H H') {x : AV} {v : Value} (h : Rdv U w B H x v) : Rdv U' w' B' H' x v := by
  rcases isTup x with ⟨xs, rfl⟩ | hx
  · rw [Rdv_tup] at h ⊢
    obtain ⟨vs, h1, h2⟩ := h
    exact ⟨vs, h1, Rdp_go e hU xs p h2⟩
  · rw [Rdv_not hx] at h ⊢
    obtain ⟨c, h1, h2⟩ := h
    exact ⟨c, Rd_go e hU x p h1, h2⟩
end
end Go.Proofs.Ytigbkhjcboecjaa
