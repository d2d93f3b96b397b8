/-
  AbsDraw: a region that draws its order comes to what the text's order comes to, where no two operations that clash stand free of one another. Of no one program.
-/
import Derived.Test.YtigbkhjcboecjaaAbsRel
namespace Go.Proofs.Ytigbkhjcboecjaa
open Go Go.RowKit
set_option linter.unusedVariables false
set_option linter.unusedSimpArgs false

structure ERec where
  want : Bool
  rh : List Nat
  e : Eff
instance : Inhabited ERec := ⟨⟨false, [], ⟨.tup [], []⟩⟩⟩
def ERec.rec_ (x : ERec) : Rec := ⟨x.rh, x.e.wr.map (·.1)⟩
abbrev Sp := (Nat → Option AV) × Hp
def appF (s : Sp) (o : Oper) (x : ERec) : Sp := (updT s.1 o.dst x.e.val, updH s.2 x.e.wr)
/-- what those that are listed leave, in the text's order -/
def fs (o : Nat → Oper) (x : Nat → ERec) (L : Nat → Bool) (s : Sp) : Nat → Sp
  | 0 => s
  | k + 1 => if L k then appF (fs o x L s k) (o k) (x k) else fs o x L s k
def GoodAt (P : Program) (E : Env) (nt : Nat) (ops : Array Oper) (o : Oper) (x : ERec) (s : Sp) : Prop :=
  wantedA ops o s.1 = some x.want ∧ (x.want = true → OpOK P E nt ops o s.1 s.2 x.rh x.e) ∧ (x.want = false → dOk nt o.dst = true ∧ x.e = ⟨.tup [], []⟩)
def all1 : Nat → Bool := fun _ => true
theorem fs_shift (o : Nat → Oper) (x : Nat → ERec) (s : Sp) : ∀ k, fs o x all1 s (k + 1) = fs (fun i => o (i + 1)) (fun i => x (i + 1)) all1 (appF s (o 0) (x 0)) k
  | 0 => by simp [fs, all1]
  | k + 1 => by
    have ih := fs_shift o x s k
    rw [fs, ih]
    simp [fs, all1]
theorem AWops_ex {P : Program} {E : Env} {nt : Nat} {ops : Array Oper} {K : St → List Rec → Prop} : ∀ (l : List Oper) (S : St) (rs : List Rec), AWops P E nt ops l S rs K →
    ∃ x : List ERec, x.length = l.length ∧ (∃ S', K S' (rs ++ x.map ERec.rec_) ∧ (S'.t, S'.h) = fs (fun i => l.getD i default) (fun i => x.getD i default) all1 (S.t, S.h) l.length) ∧
      ∀ i, i < l.length → GoodAt P E nt ops (l.getD i default) (x.getD i default) (fs (fun i => l.getD i default) (fun i => x.getD i default) all1 (S.t, S.h) i)
  | [], S, rs, h => ⟨[], rfl, ⟨S, by simp only [AWops] at h; simpa using h, rfl⟩, fun i hi => absurd hi (by simp)⟩
  | o :: l, S, rs, h => by
    obtain ⟨S0, ⟨es1, es2⟩, h⟩ := h
    rw [← es1, ← es2]
    clear es1 es2
    have fin : ∀ (y : ERec), GoodAt P E nt ops o y (S0.t, S0.h) → AWops P E nt ops l (S0.app o.dst y.e) (rs ++ [y.rec_]) K → ∃ x : List ERec, x.length = (o :: l).length ∧ (∃ S', K S' (rs ++ x.map ERec.rec_) ∧ (S'.t, S'.h) = fs (fun i => (o :: l).getD i default) (fun i => x.getD i default) all1 (S0.t, S0.h) (o :: l).length) ∧
        ∀ i, i < (o :: l).length → GoodAt P E nt ops ((o :: l).getD i default) (x.getD i default) (fs (fun i => (o :: l).getD i default) (fun i => x.getD i default) all1 (S0.t, S0.h) i) := by
      intro y hy hr
      obtain ⟨x, h1, ⟨S', h2, h3⟩, h4⟩ := AWops_ex l _ _ hr
      have hs : (((S0.app o.dst y.e).t, (S0.app o.dst y.e).h) : Sp) = appF (S0.t, S0.h) o y := by rw [St.app_t, St.app_h]; rfl
      rw [hs] at h3 h4
      refine ⟨y :: x, by simp [h1], ⟨S', by simpa using h2, ?_⟩, fun i hi => ?_⟩
      · rw [List.length_cons, fs_shift]
        simpa using h3
      · cases i with
        | zero => simpa [fs] using hy
        | succ i =>
          rw [fs_shift]
          simpa using h4 i (by simpa using hi)
    rcases h with ⟨hw, rh, e, hok, hr⟩ | ⟨hw, hd, hr⟩
    · exact fin ⟨true, rh, e⟩ ⟨hw, fun _ => hok, fun h => by cases h⟩ hr
    · exact fin ⟨false, [], ⟨.tup [], []⟩⟩ ⟨hw, (fun h => absurd h (by simp)), fun _ => ⟨hd, rfl⟩⟩ hr

/-! ### operations that do not touch one another -/
def clash (ops : Array Oper) (o1 : Oper) (r1 : Rec) (o2 : Oper) (r2 : Rec) : Bool :=
  (match o1.dst with | some d => (o2.looksAt ops).contains d || o2.dst == some d | none => false) ||
  (match o2.dst with | some d => (o1.looksAt ops).contains d | none => false) ||
  r1.wr.any (fun g => r2.rh.contains g || r2.wr.contains g) || r2.wr.any (fun g => r1.rh.contains g)
structure NoClash (ops : Array Oper) (o1 : Oper) (x1 : ERec) (o2 : Oper) (x2 : ERec) : Prop where
  t12 : ∀ d, o1.dst = some d → d ∉ o2.looksAt ops
  t21 : ∀ d, o2.dst = some d → d ∉ o1.looksAt ops
  tt : ∀ d, o1.dst = some d → o2.dst ≠ some d
  h12 : ∀ p ∈ x1.e.wr, p.1 ∉ x2.rh
  h21 : ∀ p ∈ x2.e.wr, p.1 ∉ x1.rh
  hh : ∀ p ∈ x1.e.wr, ∀ q ∈ x2.e.wr, p.1 ≠ q.1
theorem noClash {ops : Array Oper} {o1 o2 : Oper} {x1 x2 : ERec} (h : clash ops o1 x1.rec_ o2 x2.rec_ = false) : NoClash ops o1 x1 o2 x2 := by
  unfold clash at h
  simp only [Bool.or_eq_false_iff, ERec.rec_, List.any_eq_false, List.mem_map, Bool.or_eq_true, List.contains_iff_mem, not_or] at h
  obtain ⟨⟨⟨h1, h2⟩, h3⟩, h4⟩ := h
  refine ⟨fun d hd => ?_, fun d hd => ?_, fun d hd => ?_, fun p hp => ?_, fun p hp => ?_, fun p hp q hq => ?_⟩
  · rw [hd] at h1; simp at h1; exact h1.1
  · rw [hd] at h2; simpa using h2
  · rw [hd] at h1; simp at h1; exact h1.2
  · exact (h3 p.1 ⟨p, hp, rfl⟩).1
  · exact h4 p.1 ⟨p, hp, rfl⟩
  · have := (h3 p.1 ⟨p, hp, rfl⟩).2
    exact fun e => this ⟨q, hq, e.symm⟩
theorem updH_at {H : Hp} : ∀ {l : List (Nat × Bx)} {g : Nat}, (∀ p ∈ l, p.1 ≠ g) → updH H l g = H g
  | [], g, _ => rfl
  | (k, b) :: l, g, h => by
    rw [updH, upd_ne _ _ (Ne.symm (h _ List.mem_cons_self))]
    exact updH_at fun p hp => h p (List.mem_cons_of_mem _ hp)
theorem updH_congr {H H' : Hp} {g : Nat} (h : H g = H' g) : ∀ (l : List (Nat × Bx)), updH H l g = updH H' l g
  | [] => h
  | (k, b) :: l => by
    simp only [updH, upd]
    split
    · rfl
    · exact updH_congr h l
theorem updH_upd {H : Hp} {k : Nat} {b : Bx} : ∀ {l : List (Nat × Bx)}, (∀ p ∈ l, p.1 ≠ k) → updH (upd H k b) l = upd (updH H l) k b
  | [], _ => rfl
  | (j, c) :: l, h => by
    have hj := h _ List.mem_cons_self
    rw [updH, updH, updH_upd fun p hp => h p (List.mem_cons_of_mem _ hp), upd_comm _ _ _ hj]
theorem updH_comm {H : Hp} {l : List (Nat × Bx)} : ∀ {m : List (Nat × Bx)}, (∀ p ∈ l, ∀ q ∈ m, p.1 ≠ q.1) → updH (updH H l) m = updH (updH H m) l
  | [], _ => rfl
  | (k, b) :: m, h => by
    have h1 : updH (updH H l) m = updH (updH H m) l := updH_comm fun p hp q hq => h p hp q (List.mem_cons_of_mem _ hq)
    rw [updH, updH, h1, updH_upd fun p hp => h p hp (k, b) List.mem_cons_self]
theorem updT_comm {T : Nat → Option AV} {c d : Option Nat} {x y : AV} (h : ∀ i, c = some i → d ≠ some i) : updT (updT T c x) d y = updT (updT T d y) c x := by
  cases c with
  | none => rfl
  | some i =>
    cases d with
    | none => rfl
    | some j => exact upd_comm _ _ _ (fun e => h i rfl (by rw [e]))
theorem appF_comm {ops : Array Oper} {o1 o2 : Oper} {x1 x2 : ERec} (h : NoClash ops o1 x1 o2 x2) (s : Sp) : appF (appF s o1 x1) o2 x2 = appF (appF s o2 x2) o1 x1 := by
  simp only [appF]
  rw [updT_comm h.tt, updH_comm h.hh]
theorem updT_at {T : Nat → Option AV} {d : Option Nat} {x : AV} {s : Nat} (h : d ≠ some s) : updT T d x s = T s := by
  cases d with
  | none => rfl
  | some d => exact upd_ne _ _ (fun e => h (by rw [e]))
theorem updT_congr {T T' : Nat → Option AV} {s : Nat} (h : T s = T' s) (d : Option Nat) (x : AV) : updT T d x s = updT T' d x s := by
  cases d with
  | none => exact h
  | some d =>
    simp only [updT, upd]
    split
    · rfl
    · exact h

section
variable {ops : Array Oper} {o : Nat → Oper} {x : Nat → ERec} {s : Sp}
def addL (L : Nat → Bool) (i : Nat) : Nat → Bool := fun k => if k = i then true else L k
theorem fs_congr {L L' : Nat → Bool} : ∀ {k : Nat}, (∀ j, j < k → L j = L' j) → fs o x L s k = fs o x L' s k
  | 0, _ => rfl
  | k + 1, h => by
    simp only [fs]
    rw [h k (by omega), fs_congr fun j hj => h j (by omega)]
theorem fs_add {L : Nat → Bool} {i : Nat} (hi : L i = false) : ∀ (k : Nat), i < k → (∀ j, i < j → j < k → L j = true → NoClash ops (o i) (x i) (o j) (x j)) → fs o x (addL L i) s k = appF (fs o x L s k) (o i) (x i)
  | 0, h, _ => absurd h (by omega)
  | k + 1, h, hc => by
    by_cases hk : k = i
    · subst hk
      have e : fs o x (addL L k) s k = fs o x L s k := fs_congr fun j hj => by simp [addL, show j ≠ k by omega]
      simp [fs, addL, hi, e]
    · have ih := fs_add (L := L) hi k (by omega) (fun j h1 h2 h3 => hc j h1 (by omega) h3)
      have e : addL L i k = L k := by simp [addL, hk]
      simp only [fs, e, ih]
      cases hL : L k
      · simp
      · simp [appF_comm (hc k (by omega) (by omega) hL)]
/-- what operation i reads is as the text's order has it -/
theorem fs_t {L : Nat → Bool} {i d : Nat} (hi : L i = false) : ∀ (k : Nat), (∀ j, j < i → j < k → L j = false → (o j).dst ≠ some d) → (∀ j, i < j → j < k → L j = true → (o j).dst ≠ some d) → (fs o x L s k).1 d = (fs o x all1 s (min k i)).1 d
  | 0, _, _ => by simp [fs]
  | k + 1, h1, h2 => by
    have ih := fs_t (L := L) hi k (fun j a b c => h1 j a (by omega) c) (fun j a b c => h2 j a (by omega) c)
    by_cases hki : k < i
    · have e1 : min k i = k := by omega
      have e2 : min (k + 1) i = k + 1 := by omega
      rw [e1] at ih
      rw [e2]
      cases hL : L k
      · simp only [fs, hL, all1]
        simp only [Bool.false_eq_true, if_false, if_true]
        rw [ih]
        exact (updT_at (h1 k hki (by omega) hL)).symm
      · simp only [fs, hL, all1]
        simp only [if_true]
        exact updT_congr ih _ _
    · have e1 : min k i = i := by omega
      have e2 : min (k + 1) i = i := by omega
      rw [e1] at ih
      rw [e2]
      cases hL : L k
      · simp only [fs, hL]; exact ih
      · simp only [fs, hL]
        simp only [if_true]
        have hne : i ≠ k := fun e => by subst e; rw [hi] at hL; cases hL
        exact (updT_at (h2 k (by omega) (by omega) hL)).trans ih
theorem fs_h {L : Nat → Bool} {i g : Nat} (hi : L i = false) : ∀ (k : Nat), (∀ j, j < i → j < k → L j = false → ∀ p ∈ (x j).e.wr, p.1 ≠ g) → (∀ j, i < j → j < k → L j = true → ∀ p ∈ (x j).e.wr, p.1 ≠ g) → (fs o x L s k).2 g = (fs o x all1 s (min k i)).2 g
  | 0, _, _ => by simp [fs]
  | k + 1, h1, h2 => by
    have ih := fs_h (L := L) hi k (fun j a b c => h1 j a (by omega) c) (fun j a b c => h2 j a (by omega) c)
    by_cases hki : k < i
    · have e1 : min k i = k := by omega
      have e2 : min (k + 1) i = k + 1 := by omega
      rw [e1] at ih
      rw [e2]
      cases hL : L k
      · simp only [fs, hL, all1]
        simp only [Bool.false_eq_true, if_false, if_true]
        rw [ih]
        exact (updH_at (h1 k hki (by omega) hL)).symm
      · simp only [fs, hL, all1]
        simp only [if_true]
        exact updH_congr ih _
    · have e1 : min k i = i := by omega
      have e2 : min (k + 1) i = i := by omega
      rw [e1] at ih
      rw [e2]
      cases hL : L k
      · simp only [fs, hL]; exact ih
      · simp only [fs, hL]
        simp only [if_true]
        have hne : i ≠ k := fun e => by subst e; rw [hi] at hL; cases hL
        exact (updH_at (h2 k (by omega) (by omega) hL)).trans ih
end

/-! ### whatever the order -/
def preds (o : Oper) : List Nat := o.after.toList.filterMap fun e => if Region.binds .any e then some e.on else none
def masks : List Oper → List Nat → List Nat
  | [], acc => acc
  | o :: l, acc => masks l (acc ++ [(preds o).foldl (fun m p => m ||| (1 <<< p) ||| acc.getD p 0) 0])
def ancOk (ops : List Oper) (A : List Nat) : Bool :=
  (List.range ops.length).all fun j => (List.range j).all fun i => !(A.getD j 0).testBit i || (preds (ops.getD j default)).any fun p => p == i || (decide (p < j) && decide (i < p) && (A.getD p 0).testBit i)
def orderOk (ops : Array Oper) (rs : List Rec) : Bool :=
  let l := ops.toList
  let A := masks l []
  decide (rs.length = l.length) && (List.range l.length).all (fun j => (preds (l.getD j default)).all (· < j)) && ancOk l A &&
  (List.range l.length).all fun j => (List.range j).all fun i => (A.getD j 0).testBit i || !clash ops (l.getD i default) (rs.getD i ⟨[], []⟩) (l.getD j default) (rs.getD j ⟨[], []⟩)

theorem anc_in {ops : List Oper} {A : List Nat} (hA : ancOk ops A = true) {L : Nat → Bool} (hL : ∀ j, j < ops.length → L j = true → ∀ p ∈ preds (ops.getD j default), L p = true) :
    ∀ (j : Nat), j < ops.length → ∀ i, i < j → (A.getD j 0).testBit i = true → (∀ p ∈ preds (ops.getD j default), L p = true) → L i = true := by
  intro j
  induction j using Nat.strongRecOn with
  | _ j ih =>
    intro hj i hi hb hp
    have h := hA
    unfold ancOk at h
    rw [List.all_eq_true] at h
    have h1 := h j (by simpa using hj)
    rw [List.all_eq_true] at h1
    have h2 := h1 i (by simpa using hi)
    rw [hb] at h2
    simp only [Bool.not_true, Bool.false_or, List.any_eq_true, Bool.or_eq_true, beq_iff_eq, Bool.and_eq_true, decide_eq_true_eq] at h2
    obtain ⟨p, hpm, h3⟩ := h2
    rcases h3 with rfl | ⟨⟨hpj, hip⟩, hpb⟩
    · exact hp _ hpm
    · exact ih p hpj (by omega) i hip hpb (hL p (by omega) (hp p hpm))

section
variable {P : Program} {E : Env} {nt : Nat} {ops : Array Oper} {Q : Exit → Act → World → Prop} {x : Nat → ERec} {s : Sp} {A : List Nat}
abbrev opAt (ops : Array Oper) : Nat → Oper := fun i => ops.toList.getD i default
def listedL (l : Array Bool) : Nat → Bool := fun i => l.getD i false
structure Plan (P : Program) (E : Env) (nt : Nat) (ops : Array Oper) (x : Nat → ERec) (s : Sp) (A : List Nat) : Prop where
  good : ∀ i, i < ops.size → GoodAt P E nt ops (opAt ops i) (x i) (fs (opAt ops) x all1 s i)
  pre : ∀ j, j < ops.size → ∀ p ∈ preds (opAt ops j), p < j
  anc : ancOk ops.toList A = true
  free : ∀ j, j < ops.size → ∀ i, i < j → (A.getD j 0).testBit i = true ∨ NoClash ops (opAt ops i) (x i) (opAt ops j) (x j)
def Down (ops : Array Oper) (L : Nat → Bool) : Prop := ∀ j, j < ops.size → L j = true → ∀ p ∈ preds (opAt ops j), L p = true
theorem mem_ready {l : Array Bool} (hs : l.size = ops.size) {i : Nat} : i ∈ Region.ready .any ops l ↔ i < ops.size ∧ listedL l i = false ∧ ∀ p ∈ preds (opAt ops i), listedL l p = true := by
  unfold Region.ready
  rw [List.mem_filter, List.mem_range]
  constructor
  · rintro ⟨hi, h⟩
    rw [Bool.and_eq_true] at h
    obtain ⟨h1, h2⟩ := h
    have ho : ops[i]? = some (opAt ops i) := by simp [opAt, hi]
    rw [ho] at h2
    simp only [Option.map_some, Option.getD_some, Array.all_eq_true', Bool.or_eq_true, Bool.not_eq_true'] at h2
    refine ⟨hi, ?_, fun p hp => ?_⟩
    · have hi' : i < l.size := by omega
      simp [hi', Array.getD] at h1
      simp [listedL, Array.getD, hi', h1]
    · unfold preds at hp
      rw [List.mem_filterMap] at hp
      obtain ⟨e, he, h3⟩ := hp
      split at h3
      · rename_i hb
        injection h3 with h3
        subst h3
        rcases h2 e (by simpa using he) with h4 | h4
        · rw [hb] at h4; cases h4
        · exact h4
      · cases h3
  · rintro ⟨hi, h1, h2⟩
    have ho : ops[i]? = some (opAt ops i) := by simp [opAt, hi]
    refine ⟨hi, ?_⟩
    rw [Bool.and_eq_true, ho]
    refine ⟨?_, ?_⟩
    · have hi' : i < l.size := by omega
      simp [listedL, Array.getD, hi'] at h1
      simp [Array.getD, hi', h1]
    · simp only [Option.map_some, Option.getD_some, Array.all_eq_true', Bool.or_eq_true, Bool.not_eq_true']
      intro e he
      cases hb : Region.binds .any e
      · exact .inl rfl
      · refine .inr (h2 e.on ?_)
        unfold preds
        rw [List.mem_filterMap]
        exact ⟨e, by simpa using he, by simp [hb]⟩
theorem all_listed {l : Array Bool} (hs : l.size = ops.size) (hpre : ∀ j, j < ops.size → ∀ p ∈ preds (opAt ops j), p < j) (h : Region.ready .any ops l = []) : ∀ j, j < ops.size → listedL l j = true := by
  intro j
  induction j using Nat.strongRecOn with
  | _ j ih =>
    intro hj
    cases hl : listedL l j
    · have : j ∈ Region.ready .any ops l := (mem_ready hs).2 ⟨hj, hl, fun p hp => ih p (hpre j hj p hp) (by have := hpre j hj p hp; omega)⟩
      rw [h] at this
      cases this
    · rfl
theorem wantedA_congr {o : Oper} {T T' : Nat → Option AV} (h : ∀ d ∈ o.looksAt ops, T' d = T d) : wantedA ops o T' = wantedA ops o T := by
  unfold wantedA
  split
  · rfl
  · rename_i j b hg
    cases hd : (ops[j]?).bind (·.dst) with
    | none => rfl
    | some d =>
      have : T' d = T d := h d (by unfold Oper.looksAt; rw [hg]; simp [hd])
      simp only [Option.bind_some, this]
theorem listed_set {l : Array Bool} {i : Nat} (h : i < l.size) : listedL (l.setIfInBounds i true) = addL (listedL l) i := by
  funext j
  simp only [listedL, addL, Array.getD_eq_getD_getElem?, Array.getElem?_setIfInBounds]
  by_cases hj : j = i
  · subst hj; simp [h]
  · simp [hj, Ne.symm hj]
theorem cnt_ge {L : Nat → Bool} {i : Nat} : ∀ n, n ≤ i → (List.range n).countP (fun k => !addL L i k) = (List.range n).countP (fun k => !L k)
  | 0, _ => rfl
  | n + 1, h => by
    rw [List.range_succ, List.countP_append, List.countP_append, cnt_ge n (by omega)]
    simp [addL, show n ≠ i by omega]
theorem cnt_lt {L : Nat → Bool} {i : Nat} (hL : L i = false) : ∀ n, i < n → (List.range n).countP (fun k => !addL L i k) + 1 = (List.range n).countP (fun k => !L k)
  | 0, h => absurd h (by omega)
  | n + 1, h => by
    rw [List.range_succ, List.countP_append, List.countP_append]
    by_cases hn : n = i
    · subst hn
      rw [cnt_ge n (Nat.le_refl _)]
      simp [addL, hL]
    · have ih := cnt_lt hL n (by omega)
      have e : [n].countP (fun k => !addL L i k) = [n].countP (fun k => !L k) := by simp [addL, hn]
      rw [e]; omega
theorem wpAny_plan (pl : Plan P E nt ops x s A) (hQ : ∀ B a w, Rel E nt B (fs (opAt ops) x all1 s ops.size).1 (fs (opAt ops) x all1 s ops.size).2 a w → Q .normal a w) :
    ∀ (fuel : Nat) (l : Array Bool) (B : Blk) (a : Act) (w : World), l.size = ops.size → Down ops (listedL l) → (List.range ops.size).countP (fun i => !listedL l i) ≤ fuel →
      Rel E nt B (fs (opAt ops) x (listedL l) s ops.size).1 (fs (opAt ops) x (listedL l) s ops.size).2 a w → wpAny P .any ops Q fuel l a w := by
  have done : ∀ (l : Array Bool) (B : Blk) (a : Act) (w : World), l.size = ops.size → Region.ready .any ops l = [] → Rel E nt B (fs (opAt ops) x (listedL l) s ops.size).1 (fs (opAt ops) x (listedL l) s ops.size).2 a w → Q .normal a w := by
    intro l B a w hs hr r
    have e : fs (opAt ops) x (listedL l) s ops.size = fs (opAt ops) x all1 s ops.size := fs_congr fun j hj => all_listed hs pl.pre hr j hj
    rw [e] at r
    exact hQ B a w r
  intro fuel
  induction fuel with
  | zero =>
    intro l B a w hs hd hf r
    have hr : Region.ready .any ops l = [] := by
      cases h : Region.ready .any ops l with
      | nil => rfl
      | cons i t =>
        have hi : i ∈ Region.ready .any ops l := by rw [h]; simp
        rw [mem_ready hs] at hi
        have : 0 < (List.range ops.size).countP (fun i => !listedL l i) := List.countP_pos_iff.2 ⟨i, by simpa using hi.1, by simp [hi.2.1]⟩
        omega
    exact ⟨hr, done l B a w hs hr r⟩
  | succ fuel ih =>
    intro l B a w hs hd hf r
    refine ⟨fun hr => done l B a w hs hr r, fun i hi => ?_⟩
    rw [mem_ready hs] at hi
    obtain ⟨hin, hl, hp⟩ := hi
    have ho : ops[i]? = some (opAt ops i) := by simp [opAt, hin]
    have lo : ∀ j, j < i → listedL l j = false → NoClash ops (opAt ops j) (x j) (opAt ops i) (x i) := by
      intro j hj hjl
      rcases pl.free i hin j hj with h | h
      · have := anc_in pl.anc (L := listedL l) (fun j hj => hd j (by simpa using hj)) i (by simpa using hin) j hj h hp
        rw [this] at hjl; cases hjl
      · exact h
    have hi' : ∀ j, i < j → j < ops.size → listedL l j = true → NoClash ops (opAt ops i) (x i) (opAt ops j) (x j) := by
      intro j hj hjn hjl
      rcases pl.free j hjn i hj with h | h
      · have := anc_in pl.anc (L := listedL l) (fun j hj => hd j (by simpa using hj)) j (by simpa using hjn) i hj h (hd j hjn hjl)
        rw [this] at hl; cases hl
      · exact h
    have em : min ops.size i = i := by omega
    have at_ : ∀ d ∈ (opAt ops i).looksAt ops, (fs (opAt ops) x (listedL l) s ops.size).1 d = (fs (opAt ops) x all1 s i).1 d := by
      intro d hdm
      have := fs_t (o := opAt ops) (x := x) (s := s) (d := d) hl ops.size (fun j h1 h2 h3 e => (lo j h1 h3).t12 d e hdm) (fun j h1 h2 h3 e => (hi' j h1 h2 h3).t21 d e hdm)
      rwa [em] at this
    have ah : ∀ g, (g ∈ (x i).rh ∨ ∃ p ∈ (x i).e.wr, p.1 = g) → (fs (opAt ops) x (listedL l) s ops.size).2 g = (fs (opAt ops) x all1 s i).2 g := by
      intro g hg
      have := fs_h (o := opAt ops) (x := x) (s := s) (g := g) hl ops.size
        (fun j h1 h2 h3 p hp e => by
          rcases hg with hg | ⟨q, hq, rfl⟩
          · exact (lo j h1 h3).h12 p hp (e ▸ hg)
          · exact (lo j h1 h3).hh p hp q hq e)
        (fun j h1 h2 h3 p hp e => by
          rcases hg with hg | ⟨q, hq, rfl⟩
          · exact (hi' j h1 h2 h3).h21 p hp (e ▸ hg)
          · exact (hi' j h1 h2 h3).hh q hq p hp e.symm)
      rwa [em] at this
    obtain ⟨g1, g2, g3⟩ := pl.good i hin
    have hadd : fs (opAt ops) x (listedL (l.setIfInBounds i true)) s ops.size = appF (fs (opAt ops) x (listedL l) s ops.size) (opAt ops i) (x i) := by
      rw [← fs_add hl ops.size hin hi', listed_set (by omega)]
    have hdown : Down ops (listedL (l.setIfInBounds i true)) := by
      intro j hj hjl p hpm
      rw [listed_set (by omega)] at hjl ⊢
      simp only [addL] at hjl ⊢
      split
      · rfl
      · by_cases h : j = i
        · subst h; exact hp p hpm
        · rw [if_neg h] at hjl
          exact hd j hj hjl p hpm
    have hcount : (List.range ops.size).countP (fun k => !listedL (l.setIfInBounds i true) k) ≤ fuel := by
      rw [listed_set (by omega)]
      have := cnt_lt hl ops.size hin
      omega
    unfold wpOp
    simp only [ho]
    have hw : wantedA ops (opAt ops i) (fs (opAt ops) x (listedL l) s ops.size).1 = some (x i).want := (wantedA_congr at_).trans g1
    split
    · rename_i hwt
      rw [wanted_of r hw] at hwt
      refine .inl (g2 hwt _ _ at_ (fun g hg => ah g (.inl hg)) (fun p hp => ah p.1 (.inr ⟨p, hp, rfl⟩)) B a w r _ _ fun B' a' w' r' => ?_)
      refine ih _ B' a' w' (by simpa using hs) hdown hcount ?_
      rw [hadd]
      exact r'
    · rename_i hwt
      rw [wanted_of r hw] at hwt
      obtain ⟨h1, h2⟩ := g3 (by simpa using hwt)
      refine ih _ B _ w (by simpa using hs) hdown hcount ?_
      rw [hadd, appF, h2]
      exact r.undef h1

/-- a region that draws its order -/
theorem wpAny_ops {S : St} {K : St → List Rec → Prop} (hK : ∀ S' rs, K S' rs → orderOk ops rs = true ∧ ∀ B a w, Rel E nt B S'.t S'.h a w → Q .normal a w) (h : AWops P E nt ops ops.toList S [] K) {B : Blk} {a : Act} {w : World} (r : Rel E nt B S.t S.h a w) :
    wpAny P .any ops Q ops.size (Array.replicate ops.size false) a w := by
  obtain ⟨xs, h1, ⟨S', h2, h3⟩, h4⟩ := AWops_ex _ _ _ h
  obtain ⟨hok, hQ⟩ := hK _ _ h2
  rw [List.nil_append] at hok
  unfold orderOk at hok
  simp only [Bool.and_eq_true, decide_eq_true_eq] at hok
  obtain ⟨⟨⟨k1, k2⟩, k3⟩, k4⟩ := hok
  have hl : ops.toList.length = ops.size := by simp
  rw [hl] at h1 h3 h4 k2 k4
  let x : Nat → ERec := fun i => xs.getD i default
  have hx : ∀ i, i < ops.size → (xs.map ERec.rec_).getD i ⟨[], []⟩ = (x i).rec_ := by
    intro i hi
    have : i < xs.length := by omega
    simp [x, List.getD_eq_getElem?_getD, this]
  have pl : Plan P E nt ops x (S.t, S.h) (masks ops.toList []) := by
    refine ⟨h4, fun j hj p hp => ?_, k3, fun j hj i hi => ?_⟩
    · rw [List.all_eq_true] at k2
      have := k2 j (by simpa using hj)
      rw [List.all_eq_true] at this
      simpa using this p hp
    · rw [List.all_eq_true] at k4
      have h5 := k4 j (by simpa using hj)
      rw [List.all_eq_true] at h5
      have h6 := h5 i (by simpa using hi)
      rw [Bool.or_eq_true] at h6
      refine h6.imp id fun h7 => ?_
      rw [hx i (by omega), hx j hj] at h7
      exact noClash (by simpa using h7)
  have hfin : fs (opAt ops) x all1 (S.t, S.h) ops.size = (S'.t, S'.h) := h3.symm
  have e0 : ∀ i, listedL (Array.replicate ops.size false) i = false := by
    intro i
    simp only [listedL, Array.getD_eq_getD_getElem?, Array.getElem?_replicate]
    split <;> rfl
  have est : ∀ k, fs (opAt ops) x (listedL (Array.replicate ops.size false)) (S.t, S.h) k = (S.t, S.h) := by
    intro k
    induction k with
    | zero => rfl
    | succ k ih => simp only [fs, e0 k]; exact ih
  refine wpAny_plan pl (fun B a w r' => ?_) ops.size _ B a w (by simp) (fun j hj h => by rw [e0] at h; cases h) ?_ ?_
  · rw [hfin] at r'
    exact hQ B a w r'
  · have := List.countP_le_length (p := fun i => !listedL (Array.replicate ops.size false) i) (l := List.range ops.size)
    simpa using this
  · rw [est]; exact r
end
end Go.Proofs.Ytigbkhjcboecjaa
