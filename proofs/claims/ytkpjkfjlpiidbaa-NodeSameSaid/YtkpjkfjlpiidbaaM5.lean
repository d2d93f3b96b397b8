/-
  M5: several texts as one: NodeFacts, NodeAwake, StructIn, NodeIn, NodeFits, LawNode1, AbsOwn, LawNode3. No condition beyond those that each theorem states.
-/
import Derived.Test.YtkpjkfjlpiidbaaM4
import Derived.OpenShut
import Derived.Deep.Slices
import Derived.Deep.Strs
import Derived.WideShapes
namespace Go.Proofs.Ytkpjkfjlpiidbaa
open Go Go.RowKit
set_option linter.unusedVariables false
set_option linter.unusedSimpArgs false
set_option maxRecDepth 100000

theorem AFn_weak {P : Program} {f : FuncId} {xs ys : List AV} {r : AV} (h : AFn P f ys r) (hw : ∀ H, WkL H xs ys) : AFn P f xs r := fun U w vs hr => h U w vs ((hw H0).rdp hr)
theorem piv3 (p : List Int) : (pivK (16 :: p) 3).length ≤ 3 := by
  have := pivK_le (16 :: p) 3 (by omega)
  omega
theorem innerN_sm (p : List Int) (v : Int) (l : List Int) : (innerN p v l).Sm := by
  have h1 := piv3 p
  have h2 := msgList_len l 205
  have h3 := kidsL_len v ((pivK (16 :: p) 3).length + 1)
  exact ⟨Nat.zero_le _, by show (kidsL v _).length ≤ _; omega, by show (pivK _ _).length ≤ _; omega, by show (msgList _ _).length ≤ _; omega⟩
theorem leafN_sm (l : List Int) : (leafN l).Sm := ⟨by have := entList_len l 248; show (entList l 248).length ≤ _; omega, Nat.zero_le _, Nat.zero_le _, Nat.zero_le _⟩
theorem innerN_ok (p : List Int) (v : Int) (l : List Int) : nodeOk keyCmp (innerN p v l) = true := by
  unfold nodeOk innerOk
  rw [if_neg (show ¬ (innerN p v l).leaf = true from by simp [innerN])]
  rw [show fanOkBy keyCmp (innerN p v l).ks (innerN p v l).ps = true from two_ok v p, show msgsOkB keyCmp (innerN p v l).ms = true from msgsOkB_true (msgList_bf l 205).msgs]
  rfl
theorem innerN_sum (p : List Int) (v : Int) (l : List Int) : bSum (innerN p v l).ms ≤ 205 := msgList_sum l 205 (by omega)
theorem innerN_fits (p : List Int) (v : Int) (l : List Int) : nodeFits (innerN p v l) = true := by
  unfold nodeFits
  rw [innerN_ok]
  have := innerN_sum p v l
  rw [if_neg (show ¬ (innerN p v l).leaf = true from by simp [innerN])]
  rw [Bool.true_and, decide_eq_true_eq]
  unfold ndBytes
  rw [if_neg (show ¬ (innerN p v l).leaf = true from by simp [innerN])]
  exact this
theorem leafN_ok (l : List Int) : nodeOk keyCmp (leafN l) = true := by
  unfold nodeOk leafOk
  rw [if_pos (show (leafN l).leaf = true from rfl)]
  rw [show entsOkB keyCmp (leafN l).es = true from entsOkB_true (entList_lf l 248).ents]
  rfl
theorem leafN_ebd (l : List Int) : EBd (leafN l).es := (entList_lf l 248).ok.bd
theorem leafN_fits (l : List Int) : nodeFits (leafN l) = true := by
  unfold nodeFits ndBytes
  rw [leafN_ok, if_pos (show (leafN l).leaf = true from rfl), if_pos (show (leafN l).leaf = true from rfl), Bool.true_and, decide_eq_true_eq]
  exact entsF_sum l 248 (by omega) 80
/-! ### all weights together -/
theorem wts_sum (n : Nd) (hr : Rise n.ps) : ∀ j, j ≤ n.ps.length + 1 → (wtsAt n j).sum = bSum (n.ms.take (accP n.ps n.ms j))
  | 0, _ => by rw [accP_zero]; rfl
  | j + 1, h => by
    rw [wtsAt_succ, List.sum_append, wts_sum n hr j (by omega), ← accP_step hr n.ms j (by omega), bSum_append]
    simp
theorem wts_all (n : Nd) (hr : Rise n.ps) (hk : n.ks.length = n.ps.length + 1) : (wtsAt n n.ks.length).sum = bSum n.ms := by
  rw [wts_sum n hr _ (by omega), hk, accP_end, List.take_length]
theorem wts_nn (n : Nd) (j : Nat) : ∀ x ∈ wtsAt n j, 0 ≤ x := fun x hx => by
  obtain ⟨i, _, rfl⟩ := List.mem_map.1 hx
  exact (bSum_le _).1
theorem sum_zero : ∀ (w : List Int), (∀ x ∈ w, x = 0) → w.sum = 0
  | [], _ => rfl
  | x :: l, h => by rw [List.sum_cons, h x List.mem_cons_self, sum_zero l (fun y hy => h y (List.mem_cons_of_mem _ hy))]; rfl
theorem sum_nn : ∀ (w : List Int), (∀ x ∈ w, 0 ≤ x) → 0 ≤ w.sum ∧ ∀ x ∈ w, x ≤ w.sum
  | [], _ => ⟨Int.le_refl _, fun x h => by cases h⟩
  | y :: l, h => by
    obtain ⟨h1, h2⟩ := sum_nn l (fun z hz => h z (List.mem_cons_of_mem _ hz))
    have h3 := h y List.mem_cons_self
    rw [List.sum_cons]
    refine ⟨by omega, fun x hx => ?_⟩
    rcases List.mem_cons.1 hx with rfl | hx
    · omega
    · have := h2 x hx; omega
theorem size_pos {m : Msg} (h : m.ok = true) : 0 < m.size := by
  have h1 := (Msg.spec h).2.2.1
  have h2 := Key.n_le h1
  unfold Msg.size
  rw [if_pos h]
  split
  · have := Vl.n_le (Msg.spec h).2.2.2.1; omega
  · split <;> omega
theorem bSum_zero {l : List Msg} (h : Bf l) (h0 : bSum l = 0) : l = [] := by
  cases l with
  | nil => rfl
  | cons m l =>
    have h1 := size_pos (h.ok m List.mem_cons_self)
    have h2 := (bSum_le l).1
    have : bSum (m :: l) = m.size + bSum l := by simp [bSum]
    omega
theorem hv_bd (w : List Int) : -1 ≤ hvOf w ∧ hvOf w < (w.length : Int) := by
  unfold hvOf
  rcases hvAt_is w w.length (Nat.le_refl _) with ⟨e1, _, _⟩ | ⟨a, ha, _, e1, _⟩
  · rw [e1]; omega
  · rw [e1]; omega
/-- none is heaviest just if there is nothing -/
theorem hv_none (n : Nd) (hb : Bf n.ms) (hr : Rise n.ps) (hk : n.ks.length = n.ps.length + 1) : hvOf (wtsAt n n.ks.length) = -1 ↔ n.ms = [] := by
  have hs := wts_all n hr hk
  have hn := wts_nn n n.ks.length
  unfold hvOf
  rcases hvAt_is (wtsAt n n.ks.length) _ (Nat.le_refl _) with ⟨e1, _, e3⟩ | ⟨a, ha, _, e1, _, e3, _⟩
  · constructor
    · intro _
      apply bSum_zero hb
      rw [← hs]
      apply sum_zero
      intro x hx
      obtain ⟨i, hi, rfl⟩ := List.getElem_of_mem hx
      have := e3 i hi hi
      have := hn _ hx
      omega
    · intro _; exact e1
  · constructor
    · intro h; rw [e1] at h; omega
    · intro h
      rw [h] at hs
      have h1 := (sum_nn _ hn).2 _ (List.getElem_mem ha)
      have h2 : bSum ([] : List Msg) = 0 := rfl
      omega
theorem innerN_kids (p : List Int) (v : Int) (l : List Int) : (innerN p v l).ks.length = (innerN p v l).ps.length + 1 := kidsL_len v _
theorem innerN_bf (p : List Int) (v : Int) (l : List Int) : Bf (innerN p v l).ms := msgList_bf l 205
theorem innerN_rise (p : List Int) (v : Int) (l : List Int) : Rise (innerN p v l).ps := pivK_rise _ _
def wtsN (p : List Int) (v : Int) (l : List Int) : List Int := wtsAt (innerN p v l) (innerN p v l).ks.length
theorem wtsN_len (p : List Int) (v : Int) (l : List Int) : (wtsN p v l).length = (innerN p v l).ks.length := wtsAt_len _ _
theorem wtsN_le (p : List Int) (v : Int) (l : List Int) : (wtsN p v l).length ≤ 4 := by
  rw [wtsN_len, innerN_kids]
  have := piv3 p
  show (pivK _ _).length + 1 ≤ 4
  omega
theorem hvN_none (p : List Int) (v : Int) (l : List Int) : hvOf (wtsN p v l) = -1 ↔ (innerN p v l).ms = [] := hv_none _ (innerN_bf p v l) (innerN_rise p v l) (innerN_kids p v l)
theorem a_weightsN (p : List Int) (v : Int) (l : List Int) : AFn Try.prog 11 [(innerN p v l).av] (intsA (wtsN p v l)) := by
  have h := innerN_sm p v l
  have h1 := piv3 p
  have h2 := msgList_len l 205
  exact a_weights_inner _ _ _ _ (innerN_bf p v l).srt (Nat.le_of_eq (innerN_kids p v l)) (by omega) (by omega)
theorem a_refweightsN (p : List Int) (v : Int) (l : List Int) : AFn Try.prog 12 [(innerN p v l).av] (intsA (wtsN p v l)) := by
  have h1 := piv3 p
  have h2 := msgList_len l 205
  exact a_refweights_inner _ _ _ _ (innerN_bf p v l) (innerN_rise p v l) (Nat.le_of_eq (innerN_kids p v l)) (by omega) (by omega)
theorem bfAdd_ne (l : List Msg) (m : Msg) : bfAdd l m ≠ [] := by unfold bfAdd bfSet; simp
theorem msgsF_ne (l : List Int) : ∀ j, msgsF l 205 (j + 1) ≠ []
  | 0 => by
    show msgStep 205 [] _ ≠ []
    unfold msgStep
    have h1 := (bSum_le (bfAdd [] (lawMsg (l.getD 0 0) ((0 + 1 : Nat) : Int)))).2
    have h2 : (bfAdd [] (lawMsg (l.getD 0 0) ((0 + 1 : Nat) : Int))).length = 1 := rfl
    rw [if_pos (Int.le_trans h1 (by rw [h2]; decide))]
    exact bfAdd_ne _ _
  | j + 1 => by
    show msgStep 205 (msgsF l 205 (j + 1)) _ ≠ []
    unfold msgStep
    split
    · exact bfAdd_ne _ _
    · exact msgsF_ne l j
theorem msgList_some (x : Int) (l : List Int) : msgList (x :: l) 205 ≠ [] := by
  unfold msgList
  have h : min (x :: l).length 60 = (min l.length 59) + 1 := by simp only [List.length_cons]; omega
  rw [h]
  exact msgsF_ne _ _
end Go.Proofs.Ytkpjkfjlpiidbaa

namespace Go.Proofs.Ytkpjkfjlpiidbaa
open Go Go.RowKit
set_option linter.unusedVariables false
set_option linter.unusedSimpArgs false
set_option maxRecDepth 100000

theorem wk_nils (n : Nat) : ∀ H, Wk H nilA (.sl none n []) := fun _ => Wk.nil
theorem a_inner30 (x : Int) (l : List Int) (hl : l = [] ∨ True) (hb : ∀ n ∈ l, -9223372036854775808 ≤ n ∧ n ≤ 9223372036854775807) : AFn Try.prog 10 [nilA, intA 3, intsA l] (innerN [] 3 l).av :=
  AFn_weak (a_inner [] 3 l (by simp) (by simp) (by omega) hb) fun H => .cons Wk.nil (.cons (Wk.data rfl) (.cons (Wk.data rfl) .nil))
theorem a_inner300 : AFn Try.prog 10 [nilA, intA 3, nilA] (innerN [] 3 []).av :=
  AFn_weak (a_inner [] 3 [] (by simp) (by simp) (by omega) (by simp)) fun H => .cons Wk.nil (.cons (Wk.data rfl) (.cons Wk.nil .nil))
theorem a_check0 : AFn Try.prog 15 [nodeA false nilA nilA nilA nilA] (boolA false) := by
  have h := a_nodecheck ⟨false, [], [], [], []⟩ ⟨by simp, by simp, by simp, by simp⟩
  have e : nodeOk keyCmp ⟨false, [], [], [], []⟩ = false := by
    unfold nodeOk innerOk
    rw [if_neg (by simp), show fanOkBy keyCmp [] [] = false from rfl, Bool.and_false]
    rfl
  rw [e] at h
  exact AFn_weak h fun H => .cons (Wk.agg (.cons (Wk.data rfl) (.cons Wk.nil (.cons Wk.nil (.cons Wk.nil (.cons Wk.nil .nil)))))) .nil
attribute [local irreducible] OpOK AWops AW CondB Go2 AFn thenA inBlockA noGotoA orderOk wantedA
set_option maxRecDepth 100000 in
set_option maxHeartbeats 4000000 in
theorem a_awake9 : AFn Try.prog 23 [] (boolA true) := by
  refine AFn_intro Try.func23 rfl Try.ntmps23 rfl (by simp) [_] rfl fun E hE => ?_
  have hnt : (!true) = false := rfl
  have hnf : (!false) = true := rfl
  have hB : ∀ n ∈ ([0] : List Int), -9223372036854775808 ≤ n ∧ n ≤ 9223372036854775807 := by simp
  have hB8 : ∀ n ∈ ([0, 8] : List Int), -9223372036854775808 ≤ n ∧ n ≤ 9223372036854775807 := by simp
  have cl := a_lleaf [0, 8] hB8
  have c1 := a_inner30 0 [0] (.inr trivial) hB
  have c2 := a_inner300
  have hv1 := a_heaviest (innerN [] 3 []) _ (a_weightsN [] 3 []) (by have := wtsN_le [] 3 []; omega)
  have hv2 := a_heaviest (innerN [] 3 [0]) _ (a_weightsN [] 3 [0]) (by have := wtsN_le [] 3 [0]; omega)
  have e1 : hvOf (wtsN [] 3 []) = -1 := (hvN_none [] 3 []).2 rfl
  have e2 : 0 ≤ hvOf (wtsN [] 3 [0]) := by
    have h1 := hv_bd (wtsN [] 3 [0])
    have h2 : hvOf (wtsN [] 3 [0]) ≠ -1 := fun h => msgList_some 0 [] ((hvN_none [] 3 [0]).1 h)
    omega
  rw [e1] at hv1
  have cw := a_weightsN [] 3 []
  have ew : (wtsN [] 3 []).length = (innerN [] 3 []).ks.length := wtsN_len _ _ _
  have k1 := a_nodecheck (innerN [] 3 []) (innerN_sm _ _ _)
  rw [innerN_ok] at k1
  have k2 := a_nodefits (leafN [0, 8]) (leafN_sm _)
  rw [leafN_fits] at k2
  have k3 := a_nodesame (leafN [0, 8]) (leafN [0, 8]) (leafN_sm _)
  rw [decide_eq_true rfl] at k3
  have k4 := a_nodesame (leafN [0, 8]) (innerN [] 3 []) (leafN_sm _)
  rw [decide_eq_false (fun h => by have := congrArg Nd.leaf h; cases this)] at k4
  have k5 := a_nodebytes (leafN [0, 8]) (leafN_sm _) (fun _ => leafN_ebd _)
  have k6 := a_ref07bytes (leafN [0, 8]).es (leafN_ebd _) (leafN_sm _).es
  have k7 := a_nodeheavy (leafN [0, 8]) (leafN_sm _) (fun _ => leafN_ebd _)
  rw [show ndBytes (leafN [0, 8]) = eSum (leafN [0, 8]).es from rfl] at k5
  rw [show ndHeavy (leafN [0, 8]) = false from rfl] at k7
  have hl1 : (leafN [0, 8]).av = Nd.av ⟨true, (leafN [0, 8]).es, [], [], []⟩ := rfl
  have hi1 : (innerN [] 3 []).av = Nd.av ⟨false, [], (innerN [] 3 []).ks, (innerN [] 3 []).ps, (innerN [] 3 []).ms⟩ := rfl
  have hi2 : (innerN [] 3 [0]).av = Nd.av ⟨false, [], (innerN [] 3 [0]).ks, (innerN [] 3 [0]).ps, (innerN [] 3 [0]).ms⟩ := rfl
  rw [hl1] at cl k2 k3 k4 k5 k7
  rw [hi1] at c2 hv1 cw k1 k4
  rw [hi2] at c1 hv2
  generalize (leafN [0, 8]).es = E1 at *
  generalize (innerN [] 3 []).ks = K1 at *
  generalize (innerN [] 3 []).ps = P1 at *
  generalize (innerN [] 3 []).ms = M1 at *
  generalize (innerN [] 3 [0]).ks = K2 at *
  generalize (innerN [] 3 [0]).ps = P2 at *
  generalize (innerN [] 3 [0]).ms = M2 at *
  generalize wtsN [] 3 [] = W1 at *
  generalize hvOf (wtsN [] 3 [0]) = V2 at *
  have k0 := a_check0
  have d0 := acall Try.func15 (k0) (by decide +kernel) (by decide +kernel)
  have d1 := acall Try.func9 (cl) (by decide +kernel) (by decide +kernel)
  have d2 := acall Try.func10 (c1) (by decide +kernel) (by decide +kernel)
  have d3 := acall Try.func10 (c2) (by decide +kernel) (by decide +kernel)
  have d4 := acall Try.func17 (hv1) (by decide +kernel) (by decide +kernel)
  have d5 := acall Try.func17 (hv2) (by decide +kernel) (by decide +kernel)
  have d6 := acall Try.func15 (k1) (by decide +kernel) (by decide +kernel)
  have d7 := acall Try.func16 (k2) (by decide +kernel) (by decide +kernel)
  have d8 := acall Try.func21 (k3) (by decide +kernel) (by decide +kernel)
  have d9 := acall Try.func21 (k4) (by decide +kernel) (by decide +kernel)
  have d10 := acall Try.func13 (k5) (by decide +kernel) (by decide +kernel)
  have d11 := acall Try.func40 (k6) (by decide +kernel) (by decide +kernel)
  have d12 := acall Try.func11 (cw) (by decide +kernel) (by decide +kernel)
  have d13 := acall Try.func19 (k7) (by decide +kernel) (by decide +kernel)
  have t1 : (-1 : Int) = -1 := rfl
  have t2 : eSum E1 = eSum E1 := rfl
  have t3 : (W1.length : Int) = (K1.length : Int) := by omega
  refine wI ?_
  exact fin ⟨res_of rfl rfl rfl, trivial⟩
end Go.Proofs.Ytkpjkfjlpiidbaa

namespace Go.Proofs.Ytkpjkfjlpiidbaa
open Go Go.RowKit
set_option linter.unusedVariables false
set_option linter.unusedSimpArgs false
set_option maxRecDepth 100000

section
variable {H : Type} {enc : TypeId × Value → H} {P : Program} {w : World} {base : Nat} {spare : Nat → Bool} {held : Bool} {fuel : Nat} {t : TypeId} {cs : List Value} {x : DataW H × List MemPlace}
theorem in_bytes {m : Nat} {e : TypeId} (ht : P.underlying t = some (.array m e)) (he : P.underlying e = some (.int .u8)) (hc : P.cellsOf e = 1) (hct : P.cellsOf t = m) (h : DataW.trod enc P w base spare held fuel t cs = some x) : ∃ b : Vector (BitVec 8) m, cs = (bArr b).toList := by
  obtain ⟨xs, n, _, _, hl, hx, hi⟩ := DataW.trod_array ht h
  rw [hct] at hl
  have each : ∀ i (hi : i < cs.length), ∃ z : Int, cs[i] = .int .u8 z ∧ 0 ≤ z ∧ z ≤ 255 := fun i hil => by
    have h1 := hi i (by omega)
    rw [hc, Nat.mul_one, List.getElem?_eq_getElem (by omega)] at h1
    obtain ⟨z, h2, _, h3⟩ := DataW.trod_int he h1
    rw [List.drop_eq_getElem_cons hil] at h2
    simp only [List.take_succ_cons, List.take_zero, List.cons.injEq, and_true] at h2
    exact ⟨z, h2, bounds_u8 h3⟩
  refine ⟨Vector.ofFn fun i => BitVec.ofInt 8 (intOf (cs.getD i.1 undef)), ?_⟩
  apply List.ext_getElem
  · simp [bArr_size, hl]
  · intro i h1 h2
    obtain ⟨z, h3, h4, h5⟩ := each i h1
    have := bArr_get (Vector.ofFn fun i => BitVec.ofInt 8 (intOf (cs.getD i.1 undef)) : Vector (BitVec 8) m) i (by omega)
    have h6 : (bArr (Vector.ofFn fun i => BitVec.ofInt 8 (intOf (cs.getD i.1 undef)) : Vector (BitVec 8) m)).toList[i]? = some (.int .u8 z) := by
      rw [Array.getElem?_toList, this]
      simp only [Vector.getElem_ofFn, List.getD_eq_getElem?_getD, List.getElem?_eq_getElem h1, Option.getD_some, h3, intOf]
      rw [B8_ofInt _ h4 (by omega)]
    rw [List.getElem?_eq_getElem h2] at h6
    rw [h3]
    exact (Option.some.inj h6).symm
theorem in_i64 (ht : P.underlying t = some (.int .i64)) (h : DataW.trod enc P w base spare held fuel t cs = some x) : ∃ n : Int, cs = [.int .i64 n] ∧ -9223372036854775808 ≤ n ∧ n ≤ 9223372036854775807 := by
  obtain ⟨n, h1, _, h2⟩ := DataW.trod_int ht h
  exact ⟨n, h1, bounds_i64 h2⟩
theorem in_u64 (ht : P.underlying t = some (.int .u64)) (h : DataW.trod enc P w base spare held fuel t cs = some x) : ∃ n : BitVec 64, cs = [.int .u64 (D64 n)] := by
  obtain ⟨n, h1, _, h2⟩ := DataW.trod_int ht h
  have := bounds_u64 h2
  exact ⟨BitVec.ofInt 64 n, by rw [D64_ofInt _ (by omega) (by omega)]; exact h1⟩
theorem row_of_cells {w : World} {b off n : Nat} {c : Array Value} (h : ∀ k, k < n → w.cell? ⟨b, off + k, none⟩ = c[k]?) (hs : c.size = n) (hn : 0 < n) : row? w b off n = some c := by
  have h0 := h 0 hn
  rw [Array.getElem?_eq_getElem (by omega)] at h0
  unfold World.cell? at h0
  split at h0
  · rename_i cs t fr hb
    rw [row_block hb]
    have each : ∀ k, k < n → cs[off + k]? = c[k]? := fun k hk => by
      have h1 := h k hk
      unfold World.cell? at h1
      simp only [hb, Option.isSome_none, Bool.false_eq_true, if_false] at h1
      exact h1
    have hlast := each (n - 1) (by omega)
    rw [Array.getElem?_eq_getElem (show n - 1 < c.size by omega)] at hlast
    have hlt := (Array.getElem?_eq_some_iff.1 hlast).1
    unfold rowOf
    rw [if_pos (by omega)]
    congr 1
    apply Array.ext_getElem?
    intro k
    rw [Array.getElem?_extract]
    by_cases hk : k < n
    · rw [if_pos (by omega)]; exact each k hk
    · rw [if_neg (by omega), Array.getElem?_eq_none (by omega)]
  · cases h0
/-- whatever the elements: a slice of them -/
theorem in_sliceG {α : Type} [Inhabited α] {e : TypeId} {n : Nat} {arr : α → Array Value} (he : EncOk arr n) (Q : α → Prop) (ht : P.underlying t = some (.slice e)) (hc : P.cellsOf e = n) (each : ∀ {fuel : Nat} {cs : List Value} {x : DataW H × List MemPlace}, DataW.trod enc P w base spare held fuel e cs = some x → ∃ a : α, cs = (arr a).toList ∧ Q a)
    (h : DataW.trod enc P w base spare held fuel t cs = some x) : ∃ v xs, cs = [v] ∧ Sl arr n w v xs ∧ ∀ a ∈ xs, Q a := by
  rcases Go.Deep.open_slice ht h with ⟨h1, _⟩ | ⟨a, len, cap, m, nn, Da, Pl, rfl, hb, hl, hm, hmm, _, hx⟩
  · exact ⟨_, [], h1, Sl.nil _ _ _, fun a h => by cases h⟩
  · rw [hc] at hx
    have hlm : len ≤ m := by rw [hmm]; split <;> omega
    obtain ⟨f, hf⟩ := Go.Deep.choose_lt (α := α) (p := fun i y => w.cells? base (a.add (i * n)) n = some (arr y).toList ∧ Q y) (n := len) (fun i hi => by
      obtain ⟨cs', k1, k2⟩ := hx i (by omega)
      obtain ⟨y, rfl, hq⟩ := each k2
      exact ⟨y, k1, hq⟩)
    refine ⟨_, (List.range len).map f, rfl, ⟨some a, cap, by simp, by simpa using hl, hm, fun h0 => ?_⟩, fun y hy => ?_⟩
    · have hsz := fun y => he.size y
      have hpos := he.pos
      obtain ⟨b, off, spot⟩ := a
      have h0' : 0 < len := by simpa using h0
      have hc0 := (World.cells?_some (hf 0 h0').1).2.2 0 (by omega)
      rw [Array.getElem?_toList, Array.getElem?_eq_getElem (by rw [hsz]; omega)] at hc0
      have hspot : spot = none := by simpa [Addr.add] using World.cell?_spot hc0
      subst hspot
      have hadd : ∀ o k, (⟨b, o, none⟩ : Addr).add k = ⟨b, o + k, none⟩ := fun o k => by unfold Addr.add; split <;> simp_all
      have hb' : b < w.heap.size := by
        have := block_lt_of_cell hc0
        simpa [hadd] using this
      refine ⟨b, off, rfl, hb', fun i hi => ?_⟩
      have hi' : i < len := by simpa using hi
      have h1 := (World.cells?_some (hf i hi').1).2.2
      simp only [List.getElem_map, List.getElem_range]
      refine row_of_cells (fun k hk => ?_) (hsz _) hpos
      have := h1 k hk
      rw [hadd, hadd] at this
      rw [this, Array.getElem?_toList]
    · obtain ⟨i, hi, rfl⟩ := List.mem_map.1 hy
      exact (hf i (List.mem_range.1 hi)).2
theorem in_slice {α : Type} [Inhabited α] (D : DT α) (Q : α → Prop) (ht : P.underlying t = some (.slice D.t)) (hc : P.cellsOf D.t = D.n) (each : ∀ {fuel : Nat} {cs : List Value} {x : DataW H × List MemPlace}, DataW.trod enc P w base spare held fuel D.t cs = some x → ∃ a : α, cs = (D.arr a).toList ∧ Q a)
    (h : DataW.trod enc P w base spare held fuel t cs = some x) : ∃ v xs, cs = [v] ∧ Sl D.arr D.n w v xs ∧ ∀ a ∈ xs, Q a := in_sliceG D.enc Q ht hc each h
end
section
variable {H : Type} {enc : TypeId × Value → H} {w : World} {base : Nat} {spare : Nat → Bool} {held : Bool} {fuel : Nat} {cs : List Value} {x : DataW H × List MemPlace}
theorem in_Key (h : DataW.trod enc Try.prog w base spare held fuel 40 cs = some x) : ∃ k : Key, cs = k.arr.toList ∧ -9223372036854775808 ≤ k.n ∧ k.n ≤ 9223372036854775807 := by
  obtain ⟨y0, y1, n, _, hl, h0, h1⟩ := Go.ChangeShapes.trod_struct2 Try.underlying40 h
  obtain ⟨z, e0, hz⟩ := in_i64 Try.underlying3 h0
  obtain ⟨b, e1⟩ := in_bytes (m := 8) Try.underlying38 Try.underlying5 (by kernel_rfl) (by kernel_rfl) h1
  have hl' : cs.length = 9 := hl.trans (by kernel_rfl)
  refine ⟨⟨z, b⟩, ?_, hz⟩
  rw [show Try.prog.cellsOf 3 = 1 from by kernel_rfl, List.drop_zero] at e0
  rw [show Try.prog.cellsOf 38 = 8 from by kernel_rfl] at e1
  rw [List.take_of_length_le (by simp; omega)] at e1
  rw [← List.take_append_drop 1 cs, e0, e1, Key.arr_def, cat_def, cel_def]
  simp
theorem in_Vl (h : DataW.trod enc Try.prog w base spare held fuel 43 cs = some x) : ∃ k : Vl, cs = k.arr.toList ∧ -9223372036854775808 ≤ k.n ∧ k.n ≤ 9223372036854775807 := by
  obtain ⟨y0, y1, n, _, hl, h0, h1⟩ := Go.ChangeShapes.trod_struct2 Try.underlying43 h
  obtain ⟨z, e0, hz⟩ := in_i64 Try.underlying3 h0
  obtain ⟨b, e1⟩ := in_bytes (m := 16) Try.underlying41 Try.underlying5 (by kernel_rfl) (by kernel_rfl) h1
  have hl' : cs.length = 17 := hl.trans (by kernel_rfl)
  refine ⟨⟨z, b⟩, ?_, hz⟩
  rw [show Try.prog.cellsOf 3 = 1 from by kernel_rfl, List.drop_zero] at e0
  rw [show Try.prog.cellsOf 41 = 16 from by kernel_rfl] at e1
  rw [List.take_of_length_le (by simp; omega)] at e1
  rw [← List.take_append_drop 1 cs, e0, e1, Vl.arr_def, cat_def, cel_def]
  simp
theorem in_Ent (h : DataW.trod enc Try.prog w base spare held fuel 45 cs = some x) : ∃ k : Ent, cs = k.arr.toList ∧ (-9223372036854775808 ≤ k.key.n ∧ k.key.n ≤ 9223372036854775807) ∧ (-9223372036854775808 ≤ k.val.n ∧ k.val.n ≤ 9223372036854775807) := by
  obtain ⟨y0, y1, n, _, hl, h0, h1⟩ := Go.ChangeShapes.trod_struct2 Try.underlying45 h
  obtain ⟨k, e0, hk⟩ := in_Key h0
  obtain ⟨v, e1, hv⟩ := in_Vl h1
  have hl' : cs.length = 26 := hl.trans (by kernel_rfl)
  refine ⟨⟨k, v⟩, ?_, hk, hv⟩
  rw [show Try.prog.cellsOf 40 = 9 from by kernel_rfl, List.drop_zero] at e0
  rw [show Try.prog.cellsOf 43 = 17 from by kernel_rfl] at e1
  rw [List.take_of_length_le (by simp; omega)] at e1
  rw [← List.take_append_drop 9 cs, e0, e1, Ent.arr_def, cat_def]
  simp
theorem in_Msg (h : DataW.trod enc Try.prog w base spare held fuel 48 cs = some x) : ∃ k : Msg, cs = k.arr.toList ∧ (-9223372036854775808 ≤ k.kind ∧ k.kind ≤ 9223372036854775807) := by
  obtain ⟨ys, n, _, _, hl, hys, hf⟩ := DataW.trod_struct Try.underlying48 h
  have hys' : ys.length = 5 := hys
  match ys, hys' with
  | [y0, y1, y2, y3, y4], _ =>
    obtain ⟨k0, e0, hk⟩ := in_i64 Try.underlying3 (show DataW.trod enc Try.prog w base spare held n 3 ((cs.drop 0).take (Try.prog.cellsOf 3)) = some y0 from hf 0 _ rfl)
    obtain ⟨k1, e1⟩ := in_u64 Try.underlying46 (show DataW.trod enc Try.prog w base spare held n 46 ((cs.drop 1).take (Try.prog.cellsOf 46)) = some y1 from hf 1 _ rfl)
    obtain ⟨k2, e2, _⟩ := in_Key (show DataW.trod enc Try.prog w base spare held n 40 ((cs.drop 2).take (Try.prog.cellsOf 40)) = some y2 from hf 2 _ rfl)
    obtain ⟨k3, e3, _⟩ := in_Vl (show DataW.trod enc Try.prog w base spare held n 43 ((cs.drop 11).take (Try.prog.cellsOf 43)) = some y3 from hf 3 _ rfl)
    obtain ⟨k4, e4⟩ := in_u64 Try.underlying46 (show DataW.trod enc Try.prog w base spare held n 46 ((cs.drop 28).take (Try.prog.cellsOf 46)) = some y4 from hf 4 _ rfl)
    have hl' : cs.length = 29 := hl.trans (by kernel_rfl)
    refine ⟨⟨k0, k1, k2, k3, k4⟩, ?_, hk⟩

    rw [show Try.prog.cellsOf 3 = 1 from by kernel_rfl, List.drop_zero] at e0
    rw [show Try.prog.cellsOf 46 = 1 from by kernel_rfl] at e1 e4
    rw [show Try.prog.cellsOf 40 = 9 from by kernel_rfl] at e2
    rw [show Try.prog.cellsOf 43 = 17 from by kernel_rfl] at e3
    have d1 : cs = cs.take 1 ++ ((cs.drop 1).take 1 ++ ((cs.drop 2).take 9 ++ ((cs.drop 11).take 17 ++ (cs.drop 28).take 1))) := by
      have sp : ∀ i n, cs.drop i = (cs.drop i).take n ++ cs.drop (i + n) := fun i n => by
        rw [← List.drop_drop]; exact (List.take_append_drop _ _).symm
      have s4 : (cs.drop 28).take 1 = cs.drop 28 := List.take_of_length_le (by simp; omega)
      rw [s4, ← sp 11 17, ← sp 2 9, ← sp 1 1, List.take_append_drop]
    rw [d1, e0, e1, e2, e3, e4, Msg.arr_def]
    simp only [cat_def, cel_def]
    simp
end
instance : Inhabited Key := ⟨Key.zero⟩
instance : Inhabited Vl := ⟨Vl.zero⟩
instance : Inhabited Ent := ⟨Ent.zero⟩
instance : Inhabited Msg := ⟨Msg.zero⟩
/-- a slice of structs that is handed in, as the law's frame has it -/
theorem in_structs {α : Type} [Inhabited α] (D : DT α) (Q : α → Prop) {H : Type} {enc : TypeId × Value → H} {w : World} {base : Nat} {spare : Nat → Bool} {held : Bool} {t : TypeId} {v : Value} {d : DataW H} {ps : List MemPlace} (ht : Try.prog.underlying t = some (.slice D.t)) (hc : Try.prog.cellsOf D.t = D.n)
    (each : ∀ {fuel : Nat} {cs : List Value} {x : DataW H × List MemPlace}, DataW.trod enc Try.prog w base spare held fuel D.t cs = some x → ∃ a : α, cs = (D.arr a).toList ∧ Q a) (h : DataW.Trod enc Try.prog w base spare held t v d ps) (hv : ∃ A len cap, v = .slice A len cap) :
    ∃ xs, Sl D.arr D.n w v xs ∧ ∀ a ∈ xs, Q a := by
  obtain ⟨fuel, hf⟩ := h
  obtain ⟨u, xs, h1, h2, h3⟩ := in_slice D Q ht hc each hf
  obtain ⟨A, len, cap, rfl⟩ := hv
  simp only [Value.cells, List.cons.injEq, and_true] at h1
  subst h1
  exact ⟨xs, h2, h3⟩
end Go.Proofs.Ytkpjkfjlpiidbaa

namespace Go.Proofs.Ytkpjkfjlpiidbaa
open Go Go.RowKit
set_option linter.unusedVariables false
set_option linter.unusedSimpArgs false
set_option maxRecDepth 100000

/-- a node's value: its slices' values, what these read as -/
structure NodeV (w : World) (v : Value) (n : Nd) : Prop where
  is : ∃ v1 v2 v3 v4, v = .agg #[.bool n.leaf, v1, v2, v3, v4] ∧ Sl Ent.arr 26 w v1 n.es ∧ Sl ie 1 w v2 n.ks ∧ Sl Key.arr 9 w v3 n.ps ∧ Sl Msg.arr 29 w v4 n.ms
section
variable {H : Type} {enc : TypeId × Value → H} {w : World} {base : Nat} {spare : Nat → Bool} {held : Bool} {fuel : Nat} {cs : List Value} {x : DataW H × List MemPlace}
theorem in_int (h : DataW.trod enc Try.prog w base spare held fuel 3 cs = some x) : ∃ n : Int, cs = (ie n).toList ∧ True := by
  obtain ⟨n, h1, _⟩ := in_i64 Try.underlying3 h
  exact ⟨n, h1, trivial⟩
theorem in_Node (h : DataW.trod enc Try.prog w base spare held fuel 27 cs = some x) : ∃ n v1 v2 v3 v4, cs = [.bool (Nd.leaf n), v1, v2, v3, v4] ∧ Sl Ent.arr 26 w v1 n.es ∧ Sl ie 1 w v2 n.ks ∧ Sl Key.arr 9 w v3 n.ps ∧ Sl Msg.arr 29 w v4 n.ms := by
  obtain ⟨ys, n, _, _, hl, hys, hf⟩ := DataW.trod_struct Try.underlying27 h
  have hys' : ys.length = 5 := hys
  match ys, hys' with
  | [y0, y1, y2, y3, y4], _ =>
    obtain ⟨lf, e0, _⟩ := DataW.trod_bool Try.underlying4 (show DataW.trod enc Try.prog w base spare held n 4 ((cs.drop 0).take (Try.prog.cellsOf 4)) = some y0 from hf 0 _ rfl)
    obtain ⟨v1, es, e1, s1, _⟩ := in_slice dEnt (fun _ => True) Try.underlying23 (by kernel_rfl) (fun h => by obtain ⟨k, hk, _⟩ := in_Ent h; exact ⟨k, hk, trivial⟩) (show DataW.trod enc Try.prog w base spare held n 23 ((cs.drop 1).take (Try.prog.cellsOf 23)) = some y1 from hf 1 _ rfl)
    obtain ⟨v2, ks, e2, s2, _⟩ := in_sliceG ie_ok (fun _ => True) Try.underlying22 (by kernel_rfl) (fun h => in_int h) (show DataW.trod enc Try.prog w base spare held n 22 ((cs.drop 2).take (Try.prog.cellsOf 22)) = some y2 from hf 2 _ rfl)
    obtain ⟨v3, ps, e3, s3, _⟩ := in_slice dKey (fun _ => True) Try.underlying24 (by kernel_rfl) (fun h => by obtain ⟨k, hk, _⟩ := in_Key h; exact ⟨k, hk, trivial⟩) (show DataW.trod enc Try.prog w base spare held n 24 ((cs.drop 3).take (Try.prog.cellsOf 24)) = some y3 from hf 3 _ rfl)
    obtain ⟨v4, ms, e4, s4, _⟩ := in_slice dMsg (fun _ => True) Try.underlying25 (by kernel_rfl) (fun h => by obtain ⟨k, hk, _⟩ := in_Msg h; exact ⟨k, hk, trivial⟩) (show DataW.trod enc Try.prog w base spare held n 25 ((cs.drop 4).take (Try.prog.cellsOf 25)) = some y4 from hf 4 _ rfl)
    have hl' : cs.length = 5 := hl.trans (by kernel_rfl)
    refine ⟨⟨lf, es, ks, ps, ms⟩, v1, v2, v3, v4, ?_, s1, s2, s3, s4⟩
    rw [show Try.prog.cellsOf 4 = 1 from by kernel_rfl, List.drop_zero] at e0
    rw [show Try.prog.cellsOf 23 = 1 from by kernel_rfl] at e1
    rw [show Try.prog.cellsOf 22 = 1 from by kernel_rfl] at e2
    rw [show Try.prog.cellsOf 24 = 1 from by kernel_rfl] at e3
    rw [show Try.prog.cellsOf 25 = 1 from by kernel_rfl] at e4
    match cs, hl' with
    | [c0, c1, c2, c3, c4], _ =>
      simp at e0 e1 e2 e3 e4
      subst e0 e1 e2 e3 e4
      rfl
end
/-- as the law's frame has it -/
theorem in_node {H : Type} {enc : TypeId × Value → H} {w : World} {base : Nat} {spare : Nat → Bool} {held : Bool} {v : Value} {d : DataW H} {ps : List MemPlace} (h : DataW.Trod enc Try.prog w base spare held 27 v d ps) (hv : ∃ cs, v = .agg cs ∧ cs.size = Try.prog.cellsOf 27) : ∃ n, NodeV w v n := by
  obtain ⟨fuel, hf⟩ := h
  obtain ⟨n, v1, v2, v3, v4, h1, h2⟩ := in_Node hf
  obtain ⟨cs, rfl, hs⟩ := hv
  have h3 : cs.toList = [.bool n.leaf, v1, v2, v3, v4] := h1
  exact ⟨n, v1, v2, v3, v4, by rw [← h3], h2⟩
theorem node_in {w : World} {v : Value} {n : Nd} (h : NodeV w v n) : Rdv (fun _ _ => False) w B0 H0 n.av v := by
  obtain ⟨v1, v2, v3, v4, rfl, s1, s2, s3, s4⟩ := h.is
  have r1 := Rdv_one (by simp) (DT.sl_in dEnt s1) rfl
  have r2 := Rdv_one (by simp) (ints_in s2) rfl
  have r3 := Rdv_one (by simp) (DT.sl_in dKey s3) rfl
  have r4 := Rdv_one (by simp) (DT.sl_in dMsg s4) rfl
  refine (Rdv_not (by simp [Nd.av, nodeA])).2 ⟨[.bool n.leaf, v1, v2, v3, v4], ?_, rfl⟩
  show Rd _ _ (.agg 5 [boolA n.leaf, entsA n.es, intsA n.ks, keysA n.ps, msgsA n.ms]) _ _ _
  simp only [Rd, Rds]
  exact ⟨rfl, [_], _, rfl, ⟨rfl, rfl⟩, [_], _, rfl, r1, [_], _, rfl, r2, [_], _, rfl, r3, [_], _, rfl, r4, rfl⟩
end Go.Proofs.Ytkpjkfjlpiidbaa

namespace Go.Proofs.Ytkpjkfjlpiidbaa
open Go Go.RowKit
set_option linter.unusedVariables false
set_option linter.unusedSimpArgs false
set_option maxRecDepth 100000

attribute [local irreducible] OpOK AWops AW CondB Go2 AFn thenA inBlockA noGotoA orderOk wantedA
set_option maxRecDepth 100000 in
set_option maxHeartbeats 4000000 in
theorem a_ref09fits (n : Nd) (h : n.Sm) : AFn Try.prog 26 [n.av] (boolA (nodeFits n)) := by
  have k1 := a_ref09check n h
  have k2 := fun hb => a_ref09bytes n h hb
  have hq := @nodeOk_ebd n
  obtain ⟨lf, es, ks, ps, ms⟩ := n
  dsimp only [Nd.av] at k1 k2 ⊢
  refine AFn_intro Try.func26 rfl Try.ntmps26 rfl (by simp) [_] rfl fun E hE => ?_
  have hnt : (!true) = false := rfl
  have hnf : (!false) = true := rfl
  cases q : nodeOk keyCmp ⟨lf, es, ks, ps, ms⟩ with
  | false =>
    rw [q] at k1
    have d1 := acall Try.func25 (k1) (by decide +kernel) (by decide +kernel)
    rw [show nodeFits ⟨lf, es, ks, ps, ms⟩ = false from by unfold nodeFits; rw [q]; rfl]
    refine wI ?_
    exact fin ⟨res_of rfl rfl rfl, trivial⟩
  | true =>
    have k3 := k2 (hq q)
    clear k2 hq
    rw [q] at k1
    have d1 := acall Try.func25 (k1) (by decide +kernel) (by decide +kernel)
    cases lf with
    | true =>
      rw [show ndBytes ⟨true, es, ks, ps, ms⟩ = eSum es from rfl] at k3
      rw [show nodeFits ⟨true, es, ks, ps, ms⟩ = decide (eSum es ≤ 248) from by unfold nodeFits; rw [q]; rfl]
      generalize eSum es = B at k3 ⊢
      have d2 := acall Try.func14 (k3) (by decide +kernel) (by decide +kernel)
      by_cases c : B ≤ 248
      · rw [decide_eq_true c]
        refine wI ?_
        exact fin ⟨res_of rfl rfl rfl, trivial⟩
      · rw [decide_eq_false c]
        refine wI ?_
        exact fin ⟨res_of rfl rfl rfl, trivial⟩
    | false =>
      rw [show ndBytes ⟨false, es, ks, ps, ms⟩ = bSum ms from rfl] at k3
      rw [show nodeFits ⟨false, es, ks, ps, ms⟩ = decide (bSum ms ≤ 205) from by unfold nodeFits; rw [q]; rfl]
      generalize bSum ms = B at k3 ⊢
      have d2 := acall Try.func14 (k3) (by decide +kernel) (by decide +kernel)
      refine wI ?_
      exact fin ⟨res_of rfl rfl rfl, trivial⟩
end Go.Proofs.Ytkpjkfjlpiidbaa

namespace Go.Proofs.Ytkpjkfjlpiidbaa
open Go Go.RowKit
set_option linter.unusedVariables false
set_option linter.unusedSimpArgs false
set_option maxRecDepth 100000

def fewB (n : Nd) : Bool := decide (n.es.length ≤ 80) && decide (n.ks.length ≤ 20) && decide (n.ps.length ≤ 20) && decide (n.ms.length ≤ 60)
theorem few_sm {n : Nd} (h : fewB n = true) : n.Sm := by
  unfold fewB at h
  simp only [Bool.and_eq_true, decide_eq_true_eq] at h
  exact ⟨by omega, by omega, by omega, by omega⟩
theorem take_bd : ∀ (w : List Int), (∀ x ∈ w, 0 ≤ x) → ∀ j, 0 ≤ (w.take j).sum ∧ (w.take j).sum ≤ w.sum
  | [], _, j => by simp
  | x :: w, h, 0 => by
    have := (sum_nn _ h).1
    simp only [List.take_zero, List.sum_nil]
    exact ⟨Int.le_refl _, this⟩
  | x :: w, h, j + 1 => by
    have h1 := take_bd w (fun y hy => h y (List.mem_cons_of_mem _ hy)) j
    have h2 := h x List.mem_cons_self
    rw [List.take_succ_cons, List.sum_cons, List.sum_cons]
    omega
theorem take_step (w : List Int) (j : Nat) (h : j < w.length) : (w.take (j + 1)).sum = (w.take j).sum + w[j] := by
  rw [List.take_succ_eq_append_getElem h, List.sum_append]
  simp
attribute [local irreducible] OpOK AWops AW CondB Go2 AFn thenA inBlockA noGotoA orderOk wantedA
set_option maxRecDepth 100000 in
set_option maxHeartbeats 4000000 in
theorem a_few (n : Nd) : AFn Try.prog 24 [n.av] (boolA (fewB n)) := by
  obtain ⟨lf, es, ks, ps, ms⟩ := n
  dsimp only [Nd.av]
  refine AFn_intro Try.func24 rfl Try.ntmps24 rfl (by simp) [_] rfl fun E hE => ?_
  by_cases c1 : es.length ≤ 80
  · by_cases c2 : ks.length ≤ 20
    · by_cases c3 : ps.length ≤ 20
      · by_cases c4 : ms.length ≤ 60
        · rw [show fewB ⟨lf, es, ks, ps, ms⟩ = true from by unfold fewB; dsimp only; rw [decide_eq_true c1, decide_eq_true c2, decide_eq_true c3, decide_eq_true c4]; rfl]
          refine wI ?_
          exact fin ⟨res_yes rfl (by omega), trivial⟩
        · rw [show fewB ⟨lf, es, ks, ps, ms⟩ = false from by unfold fewB; dsimp only; rw [decide_eq_true c1, decide_eq_true c2, decide_eq_true c3, decide_eq_false c4]; rfl]
          refine wI ?_
          exact fin ⟨res_no rfl (by omega), trivial⟩
      · rw [show fewB ⟨lf, es, ks, ps, ms⟩ = false from by unfold fewB; dsimp only; rw [decide_eq_true c1, decide_eq_true c2, decide_eq_false c3]; rfl]
        refine wI ?_
        exact fin ⟨res_of rfl rfl rfl, trivial⟩
    · rw [show fewB ⟨lf, es, ks, ps, ms⟩ = false from by unfold fewB; dsimp only; rw [decide_eq_true c1, decide_eq_false c2]; rfl]
      refine wI ?_
      exact fin ⟨res_of rfl rfl rfl, trivial⟩
  · rw [show fewB ⟨lf, es, ks, ps, ms⟩ = false from by unfold fewB; dsimp only; rw [decide_eq_false c1]; rfl]
    refine wI ?_
    exact fin ⟨res_of rfl rfl rfl, trivial⟩
set_option maxRecDepth 100000 in
set_option maxHeartbeats 4000000 in
theorem a_nodeRaw (a b : Nd) : AFn Try.prog 4 [a.av, b.av] (boolA true) := by
  refine AFn_intro Try.func4 rfl Try.ntmps4 rfl (by simp) [_] rfl fun E hE => ?_
  have hnt : (!true) = false := rfl
  have hnf : (!false) = true := rfl
  have d0 := acall Try.func23 (a_awake9) (by decide +kernel) (by decide +kernel)
  have f1 := a_few a
  have f2 := a_few b
  cases qa : fewB a with
  | false =>
    rw [qa] at f1
    have d1 := acall Try.func24 (f1) (by decide +kernel) (by decide +kernel)
    refine wI ?_
    exact fin ⟨res_of rfl rfl rfl, trivial⟩
  | true =>
    rw [qa] at f1
    have d1 := acall Try.func24 (f1) (by decide +kernel) (by decide +kernel)
    cases qb : fewB b with
    | false =>
      rw [qb] at f2
      have d2 := acall Try.func24 (f2) (by decide +kernel) (by decide +kernel)
      refine wI ?_
      exact fin ⟨res_of rfl rfl rfl, trivial⟩
    | true =>
      rw [qb] at f2
      have d2 := acall Try.func24 (f2) (by decide +kernel) (by decide +kernel)
      have sa := few_sm qa
      have k1 := a_nodecheck a sa
      have k2 := a_ref09check a sa
      have k3 := a_nodefits a sa
      have k4 := a_ref09fits a sa
      have k5 := a_nodesame a b sa
      have k6 := a_refsame a b sa
      have k7 := a_nodesame a a sa
      rw [decide_eq_true rfl] at k7
      generalize nodeOk keyCmp a = o at k1 k2
      generalize nodeFits a = f at k3 k4
      generalize decide (a = b) = s at k5 k6
      have d3 := acall Try.func15 (k1) (by decide +kernel) (by decide +kernel)
      have d4 := acall Try.func25 (k2) (by decide +kernel) (by decide +kernel)
      have d5 := acall Try.func16 (k3) (by decide +kernel) (by decide +kernel)
      have d6 := acall Try.func26 (k4) (by decide +kernel) (by decide +kernel)
      have d7 := acall Try.func21 (k5) (by decide +kernel) (by decide +kernel)
      have d8 := acall Try.func22 (k6) (by decide +kernel) (by decide +kernel)
      have d9 := acall Try.func21 (k7) (by decide +kernel) (by decide +kernel)
      refine wI ?_
      exact fin ⟨res_of rfl rfl rfl, trivial⟩
set_option maxRecDepth 100000 in
set_option maxHeartbeats 4000000 in
theorem a_nodeHeavy (p : List Int) (v : Int) (l : List Int) (hl : p.length ≤ 17592186044400) (hb : ∀ n ∈ p, -9223372036854775808 ≤ n ∧ n ≤ 9223372036854775807) (hv : -9223372036854775808 ≤ v ∧ v ≤ 9223372036854775807) (hlb : ∀ n ∈ l, -9223372036854775808 ≤ n ∧ n ≤ 9223372036854775807) : AFn Try.prog 6 [intsA p, intA v, intsA l] (boolA true) := by
  refine AFn_intro Try.func6 rfl Try.ntmps6 rfl (by simp) [_] rfl fun E hE => ?_
  have hnt : (!true) = false := rfl
  have hnf : (!false) = true := rfl
  have d0 := acall Try.func23 (a_awake9) (by decide +kernel) (by decide +kernel)
  have c1 := a_inner p v l hl hb hv hlb
  have c2 := a_nodeheavy _ (innerN_sm p v l) (fun h => by cases h)
  have c3 := a_nodebytes _ (innerN_sm p v l) (fun h => by cases h)
  have c4 := a_ref06bytes (innerN p v l).ms (innerN_sm p v l).ms
  rw [show ndHeavy (innerN p v l) = decide (2 * bSum (innerN p v l).ms ≥ 205) from rfl] at c2
  rw [show ndBytes (innerN p v l) = bSum (innerN p v l).ms from rfl] at c3
  have h1 := innerN_sum p v l
  have h2 := (bSum_le (innerN p v l).ms).1
  have c5 := a_lleaf l hlb
  have c6 := a_nodeheavy _ (leafN_sm l) (fun _ => leafN_ebd l)
  rw [show ndHeavy (leafN l) = false from rfl] at c6
  generalize innerN p v l = n at *
  generalize leafN l = m at *
  generalize bSum n.ms = B at *
  have d1 := acall Try.func10 (c1) (by decide +kernel) (by decide +kernel)
  have d2 := acall Try.func19 (c2) (by decide +kernel) (by decide +kernel)
  have d3 := acall Try.func13 (c3) (by decide +kernel) (by decide +kernel)
  have d4 := acall Try.func27 (c4) (by decide +kernel) (by decide +kernel)
  have d5 := acall Try.func9 (c5) (by decide +kernel) (by decide +kernel)
  have d6 := acall Try.func19 (c6) (by decide +kernel) (by decide +kernel)
  refine wI ?_
  exact fin ⟨res_of rfl rfl rfl, trivial⟩
set_option maxRecDepth 100000 in
set_option maxHeartbeats 4000000 in
theorem a_nodeWeights (p : List Int) (v : Int) (l : List Int) (hl : p.length ≤ 17592186044400) (hb : ∀ n ∈ p, -9223372036854775808 ≤ n ∧ n ≤ 9223372036854775807) (hv : -9223372036854775808 ≤ v ∧ v ≤ 9223372036854775807) (hlb : ∀ n ∈ l, -9223372036854775808 ≤ n ∧ n ≤ 9223372036854775807) : AFn Try.prog 5 [intsA p, intA v, intsA l] (boolA true) := by
  refine AFn_intro Try.func5 rfl Try.ntmps5 rfl (by simp) [_] rfl fun E hE => ?_
  have hnt : (!true) = false := rfl
  have hnf : (!false) = true := rfl
  have d0 := acall Try.func23 (a_awake9) (by decide +kernel) (by decide +kernel)
  have c1 := a_inner p v l hl hb hv hlb
  have c2 := a_weightsN p v l
  have c3 := a_heaviest _ _ c2 (by have := wtsN_le p v l; omega)
  have c4 := a_nodebytes _ (innerN_sm p v l) (fun h => by cases h)
  rw [show ndBytes (innerN p v l) = bSum (innerN p v l).ms from rfl] at c4
  have hwl := wtsN_len p v l
  have hw4 := wtsN_le p v l
  have hsum : (wtsN p v l).sum = bSum (innerN p v l).ms := wts_all _ (innerN_rise p v l) (innerN_kids p v l)
  have hnn : ∀ x ∈ wtsN p v l, 0 ≤ x := wts_nn _ _
  have h205 := innerN_sum p v l
  have hnone := hvN_none p v l
  have his : hvOf (wtsN p v l) = -1 ∨ ∃ a, ∃ h : a < (wtsN p v l).length, hvOf (wtsN p v l) = (a : Int) ∧ (∀ i (h : i < (wtsN p v l).length), (wtsN p v l)[i] ≤ (wtsN p v l)[a]) ∧ ∀ i (h : i < (wtsN p v l).length), i < a → (wtsN p v l)[i] < (wtsN p v l)[a] := by
    rcases hvAt_is (wtsN p v l) _ (Nat.le_refl _) with ⟨e1, _, _⟩ | ⟨a, ha, _, e1, _, _, e4, e5⟩
    · exact .inl e1
    · exact .inr ⟨a, ha, e1, fun i h => e4 i h h, e5⟩
  generalize innerN p v l = n at *
  generalize wtsN p v l = W at *
  have hbd := take_bd W hnn
  rw [hsum] at hbd
  have d1 := acall Try.func10 (c1) (by decide +kernel) (by decide +kernel)
  have d2 := acall Try.func11 (c2) (by decide +kernel) (by decide +kernel)
  rcases his with e1 | ⟨a, ha, e1, e4, e5⟩
  · rw [e1] at c3
    have d3 := acall Try.func17 (c3) (by decide +kernel) (by decide +kernel)
    have d4 := acall Try.func13 (c4) (by decide +kernel) (by decide +kernel)
    refine wI ?_
    refine AW_loopI (fun j : Nat => ⟨[(7, .ptr 7 0 []), (8, intsA W), (9, intA (-1)), (10, intA (W.take j).sum), (11, intA j)], [(7, .var n.av)]⟩) (fun j => j ≤ W.length) (fun j => W.length - j) 0 (Nat.zero_le _) (by (refine Go2.sub ⟨?_, ?_, ?_⟩ <;> repeat' (first | exact True.intro | rfl | apply And.intro))) (fun j hj => ?_)
    by_cases c : j < W.length
    · have hs := take_step W j c
      have h1 := hbd j
      have h2 := hbd (j + 1)
      refine wI ?_
      refine ⟨j + 1, c, by omega, ?_⟩
      rw [hs]
      (refine Go2.sub ⟨?_, ?_, ?_⟩ <;> repeat' (first | exact True.intro | rfl | apply And.intro))
    · obtain rfl : j = W.length := by omega
      have t1 : (W.take W.length).sum = bSum n.ms := by rw [List.take_length]; exact hsum
      have t2 : decide ((-1 : Int) = -1) = decide ((n.ms.length : Int) = 0) := by
        have := hnone.1 e1
        rw [this]; rfl
      refine wI ?_
      exact fin ⟨res_of rfl rfl rfl, trivial⟩
  · rw [e1] at c3
    have d3 := acall Try.func17 (c3) (by decide +kernel) (by decide +kernel)
    have d4 := acall Try.func13 (c4) (by decide +kernel) (by decide +kernel)
    have g1 : ¬ ((a : Int) < -1) := by omega
    have g2 : ¬ ((a : Int) ≥ (W.length : Int)) := by omega
    refine wI ?_
    refine AW_loopI (fun j : Nat => ⟨[(7, .ptr 7 0 []), (8, intsA W), (9, intA (a : Int)), (10, intA (W.take j).sum), (11, intA j)], [(7, .var n.av)]⟩) (fun j => j ≤ W.length) (fun j => W.length - j) 0 (Nat.zero_le _) (by (refine Go2.sub ⟨?_, ?_, ?_⟩ <;> repeat' (first | exact True.intro | rfl | apply And.intro))) (fun j hj => ?_)
    by_cases c : j < W.length
    · have hs := take_step W j c
      have h1 := hbd j
      have h2 := hbd (j + 1)
      have h3 := e4 j c
      by_cases ca : j < a
      · have h4 := e5 j c ca
        refine wI ?_
        refine ⟨j + 1, c, by omega, ?_⟩
        rw [hs]
        (refine Go2.sub ⟨?_, ?_, ?_⟩ <;> repeat' (first | exact True.intro | rfl | apply And.intro))
      · refine wI ?_
        refine ⟨j + 1, c, by omega, ?_⟩
        rw [hs]
        (refine Go2.sub ⟨?_, ?_, ?_⟩ <;> repeat' (first | exact True.intro | rfl | apply And.intro))
    · obtain rfl : j = W.length := by omega
      have t1 : (W.take W.length).sum = bSum n.ms := by rw [List.take_length]; exact hsum
      have t2 : decide ((a : Int) = -1) = decide ((n.ms.length : Int) = 0) := by
        have h1 : ¬ n.ms = [] := fun h => by have := hnone.2 h; omega
        rw [decide_eq_false (by omega), decide_eq_false (fun h => h1 (List.eq_nil_of_length_eq_zero (by omega)))]
      refine wI ?_
      exact fin ⟨res_of rfl rfl rfl, trivial⟩
theorem nodeRaw_walk (v0 : Value) (x0 : Nd) (v1 : Value) (x1 : Nd) (w : World) (s0 : NodeV w v0 x0) (s1 : NodeV w v1 x1) :
    Calls Try.prog 4 #[v0, v1] w (Is w (.bool true)) :=
  law_of (a_nodeRaw x0 x1) (rdp_cons rfl (node_in s0) (rdp_cons rfl (node_in s1) rdp_nil'))
theorem nodeWeights_walk (v0 : Value) (l0 : List (Int)) (n1 : Int) (v2 : Value) (l2 : List (Int)) (w : World) (s0 : Sl ie 1 w v0 l0) (g0 : ∀ n ∈ l0, -9223372036854775808 ≤ n ∧ n ≤ 9223372036854775807) (z0 : l0.length ≤ 17592186043904) (b1 : -9223372036854775808 ≤ n1 ∧ n1 ≤ 9223372036854775807) (s2 : Sl ie 1 w v2 l2) (g2 : ∀ n ∈ l2, -9223372036854775808 ≤ n ∧ n ≤ 9223372036854775807) (z2 : l2.length ≤ 17592186043904) :
    Calls Try.prog 5 #[v0, .int .i64 n1, v2] w (Is w (.bool true)) :=
  law_of (a_nodeWeights l0 n1 l2 (by omega) g0 b1 g2) (rdp_cons rfl (ints_in s0) (rdp_cons rfl int_in (rdp_cons rfl (ints_in s2) rdp_nil')))
theorem nodeHeavy_walk (v0 : Value) (l0 : List (Int)) (n1 : Int) (v2 : Value) (l2 : List (Int)) (w : World) (s0 : Sl ie 1 w v0 l0) (g0 : ∀ n ∈ l0, -9223372036854775808 ≤ n ∧ n ≤ 9223372036854775807) (z0 : l0.length ≤ 17592186043904) (b1 : -9223372036854775808 ≤ n1 ∧ n1 ≤ 9223372036854775807) (s2 : Sl ie 1 w v2 l2) (g2 : ∀ n ∈ l2, -9223372036854775808 ≤ n ∧ n ≤ 9223372036854775807) (z2 : l2.length ≤ 17592186043904) :
    Calls Try.prog 6 #[v0, .int .i64 n1, v2] w (Is w (.bool true)) :=
  law_of (a_nodeHeavy l0 n1 l2 (by omega) g0 b1 g2) (rdp_cons rfl (ints_in s0) (rdp_cons rfl int_in (rdp_cons rfl (ints_in s2) rdp_nil')))
end Go.Proofs.Ytkpjkfjlpiidbaa

namespace Go.Proofs.Ytkpjkfjlpiidbaa
open Go Go.RowKit
set_option linter.unusedVariables false
set_option linter.unusedSimpArgs false
set_option maxRecDepth 100000

section
variable {E : Env} {nt : Nat} {B B' : Blk} {T : Nat → Option AV} {H H' : Hp} {a : Act} {w w' : World}
theorem OwnOk.go {U : Uns} (evo : Evo U w w') {g n len : Nat} {k : OwnK} {v : Value} (hH : H' g = H g) (hB : B' g = B g) (h : OwnOk w B H g n len k v) : OwnOk w' B' H' g n len k v := by
  obtain ⟨e, xs, h1, h2, h3, h4⟩ := h
  refine ⟨e, xs, hH.trans h1, h2, h3, fun hl => ⟨fun hn => (h4 hl).1 (hB ▸ hn), fun b hb => ?_⟩⟩
  obtain ⟨cur, m1, m2⟩ := (h4 hl).2 b (hB ▸ hb)
  obtain ⟨cs', c1, c2, _⟩ := evo.cell b cur e (0, 0) m1
  refine ⟨cs', c1, ?_⟩
  cases k with
  | row => obtain ⟨cap, q1, q2, q3, q4⟩ := m2; exact ⟨cap, q1, q2, q3, c2.trans q4⟩
  | «at» off p => exact m2
  | part off l => exact m2
theorem row_pre {b m : Nat} {cur : Array Value} {c : List Value} {e : TypeId} (hb : w.heap[b]? = some (.cells cur e (0, 0))) (hpre : ∀ o, o < m → cur[o]? = c[o]?) (hc : c.length = m) (hm : m ≤ cur.size) : row? w b 0 m = some c.toArray := by
  rw [row_block hb]
  unfold rowOf
  rw [if_pos (by omega)]
  congr 1
  apply Array.ext_getElem?
  intro q
  rw [Array.getElem?_extract]
  by_cases hq : q < m
  · rw [if_pos (by omega), Nat.zero_add, hpre q hq]; simp
  · rw [if_neg (by omega), Array.getElem?_eq_none (by simpa using (by omega : c.length ≤ q))]
/-- an own row's block is turned -/
theorem Rel.ownPut (r : Rel E nt B T H a w) {g n b cap : Nat} {e : TypeId} {xs ys : List AV} {cur cur' : Array Value} {c' : List Value} (hg : H g = some (.own e n xs)) (hb : B g = some b) (hw : w.heap[b]? = some (.cells cur e (0, 0))) (hs : cur.size = cap * n) (hle : xs.length ≤ ys.length) (hc : ys.length ≤ cap) (hm : cap ≤ maxLen)
    (ht : Turned w w' b) (hw' : w'.heap[b]? = some (.cells cur' e (0, 0))) (hl : cur'.size = cur.size) (hpre : ∀ o, o < ys.length * n → cur'[o]? = c'[o]?) (hy : Rdu (unst E B H) w n ys B0 H0 c') : Rel E nt B T (upd H g (.own e n ys)) a w' ∧ Evo (unst E B H) w w' := by
  have hlive : live (H g) = true := by rw [hg]; rfl
  obtain ⟨hn, hT, hbox⟩ := r.box g _ hg
  have hent : Mine E b 0 := by
    rcases hbox with ⟨k1, _⟩ | ⟨b', _, _, _, k1, _, _, _, _, _, _, k4⟩
    · rw [hb] at k1; cases k1
    · rw [hb] at k1; injection k1 with k1; subst k1; exact k4
  have hun : ∀ b' o, unst E B (upd H g (.own e n ys)) b' o ↔ unst E B H b' o := by
    intro b' o
    unfold unst
    refine or_congr Iff.rfl (exists_congr fun j => and_congr_right fun _ => ?_)
    by_cases h : j = g
    · subst h; rw [upd_same, hg]
    · rw [upd_ne _ _ h]
  have hbu : ∀ o, unst E B H b o := fun o => .inr ⟨g, hb, by rw [hg]; trivial⟩
  have evo : Evo (unst E B H) w w' := ht.evo hw hw' hl (fun o h => absurd (hbu o) h)
  have hT' : Tie E g ys.length (B g) := fun k0 b0 h => by
    obtain ⟨h1, h2⟩ := hT k0 b0 h
    exact ⟨by omega, fun e => h2 (by omega)⟩
  have pic : Pic w w' B B H (upd H g (.own e n ys)) := by
    refine ⟨fun _ _ _ h => h, fun j h => ?_, fun t n' len A cap' h => ?_, fun g' n' len k v h => ?_⟩
    · have hj : j ≠ g := fun e => by rw [e, hg] at h; cases h
      rw [upd_ne _ _ hj]; exact h
    · obtain ⟨e', q, h1, h2, h3⟩ := h
      have hne : t ≠ g := fun e' => by rw [e', hg] at h1; cases h1
      refine ⟨e', q, by rw [upd_ne _ _ hne]; exact h1, h2, fun hk => ⟨(h3 hk).1, fun b' hb' => ?_⟩⟩
      obtain ⟨k1, cu, k2, k3⟩ := (h3 hk).2 b' hb'
      have hbb : b' ≠ b := fun e' => hne (r.inj t g b (by rw [h1]; rfl) hlive (e' ▸ hb') hb)
      exact ⟨k1, cu, (ht.other b' hbb).trans k2, k3⟩
    · by_cases hj : g' = g
      · subst hj
        obtain ⟨e', xs', h1, h2, h3, h4⟩ := h
        rw [hg] at h1; injection h1 with h1; injection h1 with q1 q2 q3; subst q1 q2 q3
        refine ⟨e, ys, upd_same _ _ _, by omega, h3, fun hk => ⟨fun hn' => (by rw [hb] at hn'; cases hn'), fun b' hb' => ?_⟩⟩
        have hk' : len = xs.length := by omega
        rw [hb] at hb'; injection hb' with hb'; subst hb'
        obtain ⟨cu, m1, m2⟩ := (h4 hk').2 b hb
        rw [hw] at m1; injection m1 with m1; injection m1 with m1 _ _; subst m1
        refine ⟨cur', hw', ?_⟩
        cases k with
        | row => obtain ⟨cp, p1, p2, p3, p4⟩ := m2; exact ⟨cp, p1, p2, p3, hl.trans p4⟩
        | «at» off p => exact m2
        | part off l => exact m2
      · exact h.go evo (upd_ne _ _ hj) rfl
  refine ⟨r.move evo (fun b' o _ h => (hun b' o).1 h) pic (ht.left r.left hw hw' hl (fun o h => absurd h (Nat.not_lt_zero o)) hent) (fun j bj h => ?_) (fun j h => ?_) (fun j j' b' h1 h2 h3 h4 => ?_), evo⟩
  · by_cases hj : j = g
    · subst hj
      rw [upd_same] at h; injection h with h; subst h
      exact .inl ⟨hn, hT', .inr ⟨b, cur', cap, c', hb, hw', hl.trans hs, hc, hm, hpre, Rdu_go evo (fun b' o _ h => (hun b' o).1 h) n ys (Pic.refl0 _ _) hy, hent⟩⟩
    · rw [upd_ne _ _ hj] at h
      exact .inr ⟨h, rfl, fun b' hlv hb' => ht.other b' fun e' => hj (r.inj j g b (by rw [h]; exact hlv) hlive (e' ▸ hb') hb)⟩
  · by_cases hj : j = g
    · subst hj; rw [upd_same] at h; cases h
    · rw [upd_ne _ _ hj] at h; exact ⟨h, r.non j h⟩
  · rw [live_upd (by rw [hg]; rfl)] at h1 h2
    exact r.inj j j' b' h1 h2 h3 h4
/-- an own row goes on in a new block -/
theorem Rel.ownNew (r : Rel E nt B T H a w) {g n cap : Nat} {e : TypeId} {xs ys : List AV} {cells : Array Value} {c' : List Value} (hg : H g = some (.own e n xs)) (hlt : xs.length < ys.length) (hs : cells.size = cap * n) (hc : ys.length ≤ cap) (hm : cap ≤ maxLen) (hpre : ∀ o, o < ys.length * n → cells[o]? = c'[o]?) (hy : Rdu (unst E B H) w n ys B0 H0 c') :
    Rel E nt (upd B g w.heap.size) T (upd H g (.own e n ys)) a (w.drew.alloc (.cells cells e)) := by
  have hl : ∀ j bj b, H j = some bj → B j = some b → b < w.heap.size := fun j bj b h1 h2 => r.blk_lt h1 h2
  have hext : Ext w (w.drew.alloc (.cells cells e)) := (Ext.refl w).drew.alloc _
  obtain ⟨hn, hT, hbox⟩ := r.box g _ hg
  have pic : Pic w (w.drew.alloc (.cells cells e)) B (upd B g w.heap.size) H (upd H g (.own e n ys)) := by
    refine ⟨fun j b h1 h2 => ?_, fun j h => ?_, fun t' n' len A cap h => ?_, fun g' n' len k v h => ?_⟩
    · have hj : j ≠ g := fun e => by rw [e, hg] at h1; cases h1
      rw [upd_ne _ _ hj]; exact h2
    · have hj : j ≠ g := fun e => by rw [e, hg] at h; cases h
      rw [upd_ne _ _ hj]; exact h
    · obtain ⟨e', q, h1, h2, h3⟩ := h
      have hj : t' ≠ g := fun e => by rw [e, hg] at h1; cases h1
      refine ⟨e', q, by rw [upd_ne _ _ hj]; exact h1, h2, ?_⟩
      rw [upd_ne _ _ hj]
      refine fun hk => ⟨(h3 hk).1, fun b hb => ?_⟩
      obtain ⟨k1, cur, k2, k3⟩ := (h3 hk).2 b hb
      exact ⟨k1, cur, hext.heap k2, k3⟩
    · by_cases hj : g' = g
      · subst hj
        obtain ⟨e', xs', h1, h2, h3, h4⟩ := h
        rw [hg] at h1; injection h1 with h1; injection h1 with q1 q2 q3; subst q1 q2 q3
        exact ⟨e, ys, upd_same _ _ _, by omega, h3, fun hk => by omega⟩
      · exact h.go (U := fun _ _ => False) (Evo.ofExt hext) (upd_ne _ _ hj) (upd_ne _ _ hj)
  have hsub : ∀ b o, b < w.heap.size → unst E (upd B g w.heap.size) (upd H g (.own e n ys)) b o → unst E B H b o := fun b o hb h => unst_new hl b o hb h
  refine r.move (Evo.ofExt hext) hsub pic (r.left.ext hext) (fun j bj h => ?_) (fun j h => ?_) (fun j j' b h1 h2 h3 h4 => ?_)
  · by_cases hj : j = g
    · subst hj; rw [upd_same] at h; injection h with h; subst h
      exact .inl ⟨hn, hT.grow hlt, .inr ⟨w.heap.size, cells, cap, c', upd_same _ _ _, heap_alloc_new w.drew _, hs, hc, hm, hpre, Rdu_go (Evo.ofExt hext) hsub n ys (Pic.refl0 _ _) hy, .inl r.left.size⟩⟩
    · rw [upd_ne _ _ hj] at h
      refine .inr ⟨h, upd_ne _ _ hj, fun b _ hb => ?_⟩
      exact hext.block b (hl j bj b h hb)
  · by_cases hj : j = g
    · subst hj; rw [upd_same] at h; cases h
    · rw [upd_ne _ _ hj] at h ⊢; exact ⟨h, r.non j h⟩
  · have big : ∀ j, j ≠ g → live (upd H g (.own e n ys) j) = true → upd B g w.heap.size j = some b → b < w.heap.size := by
      intro j hj hlv hb
      rw [upd_ne _ _ hj] at hlv hb
      cases hh : H j with
      | none => rw [hh] at hlv; cases hlv
      | some bj => exact hl j bj b hh hb
    by_cases hj : j = g
    · by_cases hj' : j' = g
      · rw [hj, hj']
      · have := big j' hj' h2 h4
        subst hj
        rw [upd_same] at h3
        injection h3 with h3
        omega
    · by_cases hj' : j' = g
      · have := big j hj h1 h3
        subst hj'
        rw [upd_same] at h4
        injection h4 with h4
        omega
      · rw [upd_ne _ _ hj] at h1 h3
        rw [upd_ne _ _ hj'] at h2 h4
        exact r.inj j j' b h1 h2 h3 h4
/-- what the row is: its block, its cells -/
theorem Rel.ownAt (r : Rel E nt B T H a w) {g n : Nat} {e : TypeId} {xs : List AV} (hg : H g = some (.own e n xs)) : 0 < n ∧ ((B g = none ∧ xs = []) ∨ ∃ b cur cap c, B g = some b ∧ w.heap[b]? = some (.cells cur e (0, 0)) ∧ cur.size = cap * n ∧ xs.length ≤ cap ∧ cap ≤ maxLen ∧ (∀ o, o < xs.length * n → cur[o]? = c[o]?) ∧ Rdu (unst E B H) w n xs B0 H0 c ∧ Mine E b 0 ∧ row? w b 0 (xs.length * n) = some c.toArray) := by
  obtain ⟨hn, _, h⟩ := r.box g _ hg
  refine ⟨hn, h.imp id ?_⟩
  rintro ⟨b, cur, cap, c, k1, k2, k3, k4, k5, k6, k7, k8⟩
  exact ⟨b, cur, cap, c, k1, k2, k3, k4, k5, k6, k7, k8, row_pre k2 k6 (Rdu_len k7) (by rw [k3]; exact Nat.mul_le_mul_right _ k4)⟩
theorem own_v {U : Uns} {g n len : Nat} {k : OwnK} {v : Value} (h : Rdv U w B H (.own g n len k) v) : OwnOk w B H g n len k v := by
  rw [Rdv_not (by simp)] at h
  obtain ⟨c, h1, rfl⟩ := h
  simp only [Rd] at h1
  obtain ⟨v, h2, rfl⟩ := h1
  simpa [pack] using h2
theorem own_i {U : Uns} {g n len : Nat} {k : OwnK} {v : Value} (h : OwnOk w B H g n len k v) : Rdv U w B H (.own g n len k) v := by
  rw [Rdv_not (by simp)]
  exact ⟨[v], by simp only [Rd]; exact ⟨v, h, rfl⟩, rfl⟩
theorem OwnOk.now {g n len : Nat} {k : OwnK} {v : Value} {e : TypeId} {xs : List AV} (h : OwnOk w B H g n len k v) (hg : H g = some (.own e n xs)) (hl : len = xs.length) : (B g = none → v = .slice none 0 0) ∧ ∀ b, B g = some b → ∃ cur, w.heap[b]? = some (.cells cur e (0, 0)) ∧ match (generalizing := false) k with
    | .row => ∃ cap, v = .slice (some ⟨b, 0, none⟩) len cap ∧ len ≤ cap ∧ cap ≤ maxLen ∧ cur.size = cap * n
    | .at off _ => v = .pointer (some ⟨b, off, none⟩)
    | .part off l => ∃ cap, v = .slice (some ⟨b, off * n, none⟩) l cap ∧ off + l ≤ len ∧ l ≤ cap ∧ cap ≤ maxLen := by
  obtain ⟨e', xs', h1, h2, h3, h4⟩ := h
  rw [hg] at h1; injection h1 with h1; injection h1 with q1 q2 q3; subst q1 q3
  exact h4 hl
end
section
variable {P : Program} {E : Env} {nt : Nat} {ops : Array Oper} {T : Nat → Option AV} {H : Hp} {d : Option Nat} {ty : TypeId} {pos : String} {af : Array Edge} {gd : Option (Nat × Bool)} (tb : Tab P)
theorem own_append {B : Blk} {a : Act} {w : World} {t tx ty e : TypeId} {es bytes : Nat} {ea : Bool} {g : Nat} {xs ys : List AV} {sv yv : Value} (r : Rel E nt B T H a w) (hs : tb.ti t = some (.sl e es bytes ea)) (h : OwnOk w B H g es xs.length .row sv) (hg : H g = some (.own e es xs))
    (hsrc : SrcA P E B H w tx es yv ys) (hlen : (xs.length + ys.length) * bytes ≤ 140737488355328) (hlen2 : xs.length + ys.length ≤ 9223372036854775807) :
    ∃ v w' B', (Builtin.append_ #[t, tx] ty #[sv, yv]).run P w = .ok v w' ∧ Rel E nt B' T (upd H g (.own e es (xs ++ ys))) a w' ∧ OwnOk w' B' (upd H g (.own e es (xs ++ ys))) g es (xs.length + ys.length) .row v := by
  obtain ⟨news, hS, hN⟩ := hsrc
  obtain ⟨_, hu, _, i, z, hi, hz, his, hib, hzs⟩ := tb.ok t _ hs
  subst his hib
  have hnl := Rdu_len hN
  obtain ⟨hn1, hn2⟩ := h.now hg rfl
  obtain ⟨hpos, hbox⟩ := r.ownAt hg
  have hone := h
  obtain ⟨A, cap, hsv, hcap⟩ : ∃ A cap, sv = .slice A xs.length cap ∧ xs.length ≤ cap := by
    rcases hbox with ⟨k1, k2⟩ | ⟨b, cur, cp, c, k1, _⟩
    · exact ⟨none, 0, by rw [hn1 k1, k2]; rfl, by rw [k2]; exact Nat.le_refl _⟩
    · obtain ⟨cu, _, cap, q1, q2, _⟩ := hn2 b k1
      exact ⟨_, cap, q1, q2⟩
  by_cases hm : ys.length = 0
  · obtain rfl : ys = [] := List.eq_nil_of_length_eq_zero hm
    obtain rfl : news = [] := List.eq_nil_of_length_eq_zero (by simpa using hnl)
    have hr := run_append_nothing (P := P) w t tx ty e i hu hi A xs.length cap hcap yv hS
    refine ⟨_, w, B, by rw [hsv]; exact hr, ?_, ?_⟩
    · rw [List.append_nil, upd_eta hg]; exact r
    · rw [List.append_nil, upd_eta hg, ← hsv]; exact h
  · have hlt : xs.length < (xs ++ ys).length := by simp; omega
    have hel : (xs ++ ys).length = xs.length + ys.length := by simp
    have h63 : ((xs.length + ys.length : Nat) : Int) ≤ 9223372036854775807 := by omega
    have hcmax : ∀ c, grownCap w (xs.length + ys.length) c e ≤ maxLen := fun c => grownCap_le_maxLen w _ c e (by unfold maxLen; omega)
    have fresh : ∀ (olds : List Value), cap < xs.length + ys.length → Rdu (unst E B H) w i.size xs B0 H0 olds → (Builtin.firstCells i.size xs.length (.slice A xs.length cap)).run P w.drew = .ok olds.toArray w.drew → ∃ v w' B', (Builtin.append_ #[t, tx] ty #[sv, yv]).run P w = .ok v w' ∧ Rel E nt B' T (upd H g (.own e i.size (xs ++ ys))) a w' ∧ OwnOk w' B' (upd H g (.own e i.size (xs ++ ys))) g i.size (xs.length + ys.length) .row v := by
      intro olds hc hO hold
      have hol := Rdu_len hO
      have hr := run_append_grow_src (P := P) w t tx ty e i z hu hi hz A xs.length cap olds hold yv ys.length news hS hc h63 (growslice_fits (by omega) (by exact hlen))
      have hge := grownCap_ge w (xs.length + ys.length) cap e
      have hsz : ((olds ++ news).toArray ++ Builtin.zeroCells z.cells (grownCap w (xs.length + ys.length) cap e - (xs.length + ys.length))).size = grownCap w (xs.length + ys.length) cap e * i.size := by
        simp only [Array.size_append, List.size_toArray, List.length_append, size_zeroCells, hzs, hol, hnl, ← Nat.add_mul]
        congr 1; omega
      have hreg := r.ownNew (ys := xs ++ ys) (c' := olds ++ news) hg hlt hsz (by rw [hel]; exact hge) (hcmax cap) (fun o ho => by
        rw [hel, Nat.add_mul, ← hol, ← hnl, ← List.length_append] at ho
        rw [Array.getElem?_append_left (by simpa using ho)]; simp) (Rdu_append hO hN)
      refine ⟨_, _, _, by rw [hsv]; exact hr, hreg, ⟨e, xs ++ ys, upd_same _ _ _, Nat.le_of_eq hel.symm, rfl, fun _ => ⟨fun h => ?_, fun b hb => ?_⟩⟩⟩
      · rw [upd_same] at h; cases h
      · rw [upd_same] at hb; injection hb with hb; subst hb
        exact ⟨_, heap_alloc_new w.drew _, _, rfl, hge, hcmax cap, hsz⟩
    rcases hbox with ⟨k1, k2⟩ | ⟨b, cur, cp, c, k1, k2, k3, k4, k5, k6, k7, k8, k9⟩
    · subst k2
      have := hn1 k1
      rw [hsv] at this
      injection this with e1 e2 e3
      subst e1 e3
      exact fresh [] (by simp; omega) (by simp [Rdu]) (by simp [Builtin.firstCells])
    · obtain ⟨cu, m1, cap', m2, m3, m4, m5⟩ := hn2 b k1
      rw [k2] at m1; injection m1 with m1; injection m1 with m1 _ _; subst m1
      rw [hsv] at m2
      injection m2 with e1 e2 e3
      subst e1 e3
      have hcl := Rdu_len k7
      by_cases hroom : xs.length + ys.length ≤ cap
      · have hfit : xs.length * i.size + news.length ≤ cur.size := by rw [hnl, m5, ← Nat.add_mul]; exact Nat.mul_le_mul_right _ hroom
        have hr := run_append_put (P := P) (ty := ty) hu hi hS hroom k2 hfit
        have hput := putRow_heap_same (off := xs.length * i.size) (cs := news.toArray) k2
        have hsp : (splice cur (xs.length * i.size) news.toArray).size = cur.size := splice_size _ _ _ (by simpa using hfit)
        have hrm := r.ownPut (ys := xs ++ ys) (c' := c ++ news) hg k1 k2 m5 (by omega) (by rw [hel]; exact hroom) m4 turned_put hput hsp (fun o ho => by
          rw [hel, Nat.add_mul] at ho
          rw [splice_get (by simpa using hfit)]
          by_cases h1 : o < xs.length * i.size
          · rw [if_neg (by omega), k6 o h1, List.getElem?_append_left (by omega)]
          · rw [if_pos (by simp; omega), List.getElem?_append_right (by omega), hcl]; simp) (Rdu_append k7 hN)
        refine ⟨_, _, B, by rw [hsv]; exact hr, hrm.1, ⟨e, xs ++ ys, upd_same _ _ _, Nat.le_of_eq hel.symm, rfl, fun _ => ⟨fun h => ?_, fun b' hb' => ?_⟩⟩⟩
        · rw [k1] at h; cases h
        · rw [k1] at hb'; injection hb' with hb'; subst hb'
          exact ⟨_, hput, cap, rfl, hroom, m4, by rw [hsp]; exact m5⟩
      · refine fresh c (by omega) k7 ?_
        exact run_firstCells_some (P := P) w.drew i.size xs.length ⟨b, 0, none⟩ xs.length cap c (by rw [hcl]) (by simpa using cells_of_row k9)
theorem ok_append_own {s x : Operand} {t tx e : TypeId} {es bytes : Nat} {ea : Bool} {g len len' : Nat} {xs ys : List AV} {src : AV} (hd : dOk nt d = true) (hs : tb.ti t = some (.sl e es bytes ea)) (hx : evalO T s = some (.own g es len .row)) (hg : H g = some (.own e es xs)) (hln : len = xs.length)
    (hy : evalO T x = some src) (hsrc : SrcOf P tx es src ys) (hln' : len' = xs.length + ys.length) (hlen : (xs.length + ys.length) * bytes ≤ 140737488355328) (hlen2 : xs.length + ys.length ≤ 9223372036854775807) :
    OpOK P E nt ops ⟨d, .call { callee := .builtin .append, args := #[s, x], argTypes := #[t, tx] }, ty, pos, af, gd⟩ T H [g] ⟨.own g es len' .row, [(g, .own e es (xs ++ ys))]⟩ :=
  ok_eff hd fun B T' H' a w r ht hh hw => by
    subst hln hln'
    have hg' := (hh g (by simp)).trans hg
    have h := own_v (r.eval ((ht s (by simp [Op.operands, Call.operands])).trans hx))
    obtain ⟨v, w', B', h1, h2, h3⟩ := own_append tb (ty := ty) r hs h hg' (hsrc E B H' w _ (r.eval ((ht x (by simp [Op.operands, Call.operands])).trans hy))) hlen hlen2
    exact ⟨v, w', B', by simp [execOp, resolve, invoke, builtin, h1], h2, own_i h3⟩
/-- a place in the row -/
theorem ok_idx_own {x ix : Operand} {t e : TypeId} {es bytes : Nat} {ea : Bool} {g len : Nat} {xs : List AV} {k : IntKind} {i : Int} (hd : dOk nt d = true) (hs : tb.ti t = some (.sl e es bytes ea)) (hx : evalO T x = some (.own g es len .row)) (hg : H g = some (.own e es xs)) (hln : len = xs.length) (hi : evalO T ix = some (.v (.int k i)))
    (h0 : 0 ≤ i) (hl : i < (len : Int)) : OpOK P E nt ops ⟨d, .indexAddr t x ix, ty, pos, af, gd⟩ T H [g] ⟨.own g es len (.at (i.toNat * es) [i.toNat]), []⟩ :=
  ok_val hd fun B T' H' a w r ht hh => by
    subst hln
    have hg' := (hh g (by simp)).trans hg
    have h := own_v (r.eval ((ht x (by simp [Op.operands])).trans hx))
    have hj := r.evalv ((ht ix (by simp [Op.operands])).trans hi)
    obtain ⟨hn1, hn2⟩ := h.now hg' rfl
    obtain ⟨hpos, hbox⟩ := r.ownAt hg'
    rcases hbox with ⟨k1, k2⟩ | ⟨b, cur, cp, c, k1, k2, _⟩
    · subst k2; simp at hl; omega
    · obtain ⟨cu, m1, cap, m2, _⟩ := hn2 b k1
      obtain ⟨_, hu, he, _⟩ := tb.ok t _ hs
      have hz := run_sizeOf_of he w
      refine ⟨.pointer (some ⟨b, i.toNat * es, none⟩), ?_, own_i ⟨e, xs, hg', Nat.le_refl _, rfl, fun _ => ⟨fun h => (by rw [k1] at h; cases h), fun b' hb' => ?_⟩⟩⟩
      · simp [execOp, m2, hj, Instr.indexAt, run_underlying hu, asIntOf, hz, h0, hl, add_lit]
      · rw [k1] at hb'; injection hb' with hb'; subst hb'
        exact ⟨cu, m1, rfl⟩
theorem ok_fld_own {x : Operand} {s e : TypeId} {f n o sz : Nat} {ag : Bool} {fs : List (Nat × Nat × Bool)} {g m len off : Nat} {p : List Nat} {xs : List AV} (hd : dOk nt d = true) (hx : evalO T x = some (.own g m len (.at off p))) (hg : H g = some (.own e m xs)) (hln : len = xs.length) (h0 : 0 < xs.length) (hs : tb.ti s = some (.st n fs)) (hf : fs[f]? = some (o, sz + 1, ag)) :
    OpOK P E nt ops ⟨d, .fieldAddr s x f, ty, pos, af, gd⟩ T H [g] ⟨.own g m len (.at (off + o) (p ++ [f])), []⟩ :=
  ok_val hd fun B T' H' a w r ht hh => by
    subst hln
    have hg' := (hh g (by simp)).trans hg
    have h := own_v (r.eval ((ht x (by simp [Op.operands])).trans hx))
    obtain ⟨hn1, hn2⟩ := h.now hg' rfl
    obtain ⟨hpos, hbox⟩ := r.ownAt hg'
    rcases hbox with ⟨k1, k2⟩ | ⟨b, cur, cp, c, k1, k2, _⟩
    · subst k2; simp at h0
    · obtain ⟨cu, m1, m2⟩ := hn2 b k1
      simp only at m2
      obtain ⟨_, F, hu, hF⟩ := tb.ok s _ hs
      obtain ⟨fd, hfd, hfo, hft⟩ := fields_at hF f o (sz + 1) ag hf
      have hz := run_sizeOf_of hft w
      refine ⟨.pointer (some ⟨b, off + o, none⟩), ?_, own_i ⟨e, xs, hg', Nat.le_refl _, rfl, fun _ => ⟨fun h => (by rw [k1] at h; cases h), fun b' hb' => ?_⟩⟩⟩
      · simp [execOp, m2, Instr.fieldAt, run_underlying hu, hfd, Instr.sureAddr, fieldPlace, hz, hfo, add_lit]
      · rw [k1] at hb'; injection hb' with hb'; subst hb'
        exact ⟨cu, m1, rfl⟩
theorem ok_load_own {x : Operand} {t e : TypeId} {g n len off : Nat} {p : List Nat} {xs : List AV} {z : AV} (hd : dOk nt d = true) (hx : evalO T x = some (.own g n len (.at off p))) (hg : H g = some (.own e n xs)) (hln : len = xs.length) (h0 : 0 < xs.length) (hp : subA p (.arr (xs.length * n) n xs) = some z) (ho : offA p (.arr (xs.length * n) n xs) = off) (hs : tb.sa t = some (isAggA z, sizeA z)) :
    OpOK P E nt ops ⟨d, .load t x, ty, pos, af, gd⟩ T H [g] ⟨z, []⟩ :=
  ok_val hd fun B T' H' a w r ht hh => by
    subst hln
    have hg' := (hh g (by simp)).trans hg
    have h := own_v (r.eval ((ht x (by simp [Op.operands])).trans hx))
    obtain ⟨hn1, hn2⟩ := h.now hg' rfl
    obtain ⟨hpos, hbox⟩ := r.ownAt hg'
    rcases hbox with ⟨k1, k2⟩ | ⟨b, cur, cp, c, k1, k2, k3, k4, k5, k6, k7, k8, k9⟩
    · subst k2; simp at h0
    · obtain ⟨cu, m1, m2⟩ := hn2 b k1
      simp only at m2
      have hR : Rd (unst E B H') w (.arr (xs.length * n) n xs) B H' c := by simp only [Rd]; exact ⟨Rdu_len k7, k7⟩
      obtain ⟨c1, c2, c3, rfl, q1, q2, _⟩ := Rd_sub p hR hp
      rw [← Rdu_len k7] at k9
      have hrow := row_mid k9
      rw [Nat.zero_add, q1, ho] at hrow
      have hr := run_loadVar_of (tb.tyOf hs) (by rw [← Rd_len q2]; exact hrow) size1
      rw [pack_if q2] at hr
      refine ⟨pack z c2, ?_, by rw [Rdv_not (Rd_notup q2)]; exact ⟨c2, q2, rfl⟩⟩
      simp [execOp, m2, Instr.loadAt, Instr.sureAddr, hr]
theorem ok_store_own {x y : Operand} {t e : TypeId} {g n len off : Nat} {p : List Nat} {v old : AV} {xs ys : List AV} (hd : dOk nt d = true) (hx : evalO T x = some (.own g n len (.at off p))) (hy : evalO T y = some v) (hg : H g = some (.own e n xs)) (hln : len = xs.length) (h0 : 0 < xs.length) (hp : subA p (.arr (xs.length * n) n xs) = some old) (ho : offA p (.arr (xs.length * n) n xs) = off)
    (hv : setA v p (.arr (xs.length * n) n xs) = some (.arr (xs.length * n) n ys)) (hs : tb.sa t = some (isAggA v, sizeA v)) (hs' : sizeA v = sizeA old) (hnt : notTup v = true) : OpOK P E nt ops ⟨none, .store t x y, ty, pos, af, gd⟩ T H [g] ⟨.tup [], [(g, .own e n ys)]⟩ := by
  intro T' H' ht hh hw B a w r K Q hK
  subst hln
  have hg' := (hh g (by simp)).trans hg
  have h := own_v (r.eval ((agree_op ht (by simp [Op.operands])).trans hx))
  have hv2 := r.eval ((agree_op ht (x := y) (by simp [Op.operands])).trans hy)
  rw [Rdv_not (notTup_ne hnt)] at hv2
  obtain ⟨c', hc1, hc2⟩ := hv2
  obtain ⟨hn1, hn2⟩ := h.now hg' rfl
  obtain ⟨hpos, hbox⟩ := r.ownAt hg'
  rcases hbox with ⟨k1, k2⟩ | ⟨b, cur, cp, c, k1, k2, k3, k4, k5, k6, k7, k8, k9⟩
  · subst k2; simp at h0
  · obtain ⟨cu, m1, m2⟩ := hn2 b k1
    simp only at m2
    have hR : Rd (unst E B H') w (.arr (xs.length * n) n xs) B H' c := by simp only [Rd]; exact ⟨Rdu_len k7, k7⟩
    have hcl := Rdu_len k7
    obtain ⟨c1, c2, c3, rfl, q1, q2, q3⟩ := Rd_sub p hR hp
    have hl : c'.length = c2.length := by rw [Rd_len hc1, Rd_len q2, hs']
    have hle : xs.length * n ≤ cur.size := by rw [k3]; exact Nat.mul_le_mul_right _ k4
    have hfit : off + c'.length ≤ cur.size := by simp at hcl; omega
    have hst := run_storeVar_of (tb.tyOf hs) (off := off) (v := a.eval y) (c := c') (by rw [hc2]; exact pack_cells hc1) k2 (Rd_len hc1) (by rw [← Rd_len hc1]; exact hfit) (Rd_one v hc1)
    have hy2 := q3 v _ c' hv hc1 hl
    simp only [Rd] at hy2
    have hyl : ys.length = xs.length := by
      have h1 := Rdu_len hy2.2
      have h2 : (c1 ++ c' ++ c3).length = (c1 ++ c2 ++ c3).length := by simp [hl]
      rw [h2, hcl] at h1
      exact (Nat.eq_of_mul_eq_mul_right hpos h1).symm
    have hput := putRow_heap_same (off := off) (cs := c'.toArray) k2
    have hsp : (splice cur off c'.toArray).size = cur.size := splice_size _ _ _ (by simpa using hfit)
    have hrm := r.ownPut (ys := ys) (c' := c1 ++ c' ++ c3) hg' k1 k2 k3 (by omega) (by omega) k5 turned_put hput hsp (fun o ho' => by
      rw [hyl] at ho'
      rw [splice_get (by simpa using hfit)]
      have hk := k6 o ho'
      by_cases h1 : off ≤ o ∧ o < off + c'.toArray.size
      · rw [if_pos h1]
        obtain ⟨h1, h2⟩ := h1
        rw [List.getElem?_append_left (by simp at h2 ⊢; omega), List.getElem?_append_right (by omega)]
        simp [q1, ho]
      · rw [if_neg h1, hk]
        have h2 : o < off ∨ off + c'.length ≤ o := by simp at h1; omega
        rcases h2 with h2 | h2
        · rw [List.append_assoc, List.append_assoc, List.getElem?_append_left (by omega), List.getElem?_append_left (by omega)]
        · rw [List.getElem?_append_right (by simp; omega), List.getElem?_append_right (by simp; omega)]
          simp [hl]) hy2.2
    unfold Oper.wp
    have he : (execOp a.eval ⟨none, .store t x y, ty, pos, af, gd⟩).run P w = .ok .skip (putRow w b off c'.toArray) := by
      simp [execOp, m2, Instr.storeAt, Instr.sureAddr, hst]
    rw [he]
    exact hK B _ _ hrm.1
end
/-! ### the row stays from here on: a list again -/
mutual
/-- y is x, where the own row g is let be -/
def Thw (g n : Nat) (xs : List AV) : AV → AV → Prop
  | .own g' n' len k, y => match Nat.beq g' g with
    | true => n' = n ∧ len = xs.length ∧ k = .row ∧ y = .sl (some g) n xs
    | false => y = .own g' n' len k
  | .agg m fs, y => match y with
    | .agg m' us => m' = m ∧ ThwL g n xs fs us
    | _ => False
  | x, y => (namesA x).all (fun j => !Nat.beq j g) = true ∧ y = x
def ThwL (g n : Nat) (xs : List AV) : List AV → List AV → Prop
  | [], us => us = []
  | x :: l, us => match us with
    | u :: us => Thw g n xs x u ∧ ThwL g n xs l us
    | [] => False
end
def ThwT (g n : Nat) (xs : List AV) (T : List (Nat × AV)) : List (Nat × AV) → Prop
  | [] => True
  | (s, y) :: l => (match look s T with | some x => Thw g n xs x y | none => False) ∧ ThwT g n xs T l
def ThwB (g n : Nat) (xs : List AV) : Bx → Bx → Prop
  | .var x, b => match b with
    | .var y => Thw g n xs x y
    | _ => False
  | .froz x, b => match b with
    | .froz y => Thw g n xs x y
    | _ => False
  | b0, b => b = b0
def ThwH (g n : Nat) (e : TypeId) (xs : List AV) (H : List (Nat × Bx)) : List (Nat × Bx) → Prop
  | [] => True
  | (j, b) :: l => (match Nat.beq j g with
    | true => b = .tail e n xs.length
    | false => match look j H with | some b0 => ThwB g n xs b0 b | none => False) ∧ ThwH g n e xs H l
theorem ThwT.at {g n : Nat} {xs : List AV} {T : List (Nat × AV)} : ∀ {l : List (Nat × AV)}, ThwT g n xs T l → ∀ p ∈ l, ∃ x, look p.1 T = some x ∧ Thw g n xs x p.2
  | [], _, p, h => by cases h
  | (s, y) :: l, ⟨h1, h2⟩, p, h => by
    rcases List.mem_cons.1 h with rfl | h
    · cases hs : look s T with
      | none => rw [hs] at h1; exact h1.elim
      | some x => rw [hs] at h1; exact ⟨x, rfl, h1⟩
    · exact h2.at p h
theorem ThwH.at {g n : Nat} {e : TypeId} {xs : List AV} {H : List (Nat × Bx)} : ∀ {l : List (Nat × Bx)}, ThwH g n e xs H l → ∀ p ∈ l, (p.1 = g ∧ p.2 = .tail e n xs.length) ∨ (p.1 ≠ g ∧ ∃ b0, look p.1 H = some b0 ∧ ThwB g n xs b0 p.2)
  | [], _, p, h => by cases h
  | (j, b) :: l, ⟨h1, h2⟩, p, h => by
    rcases List.mem_cons.1 h with rfl | h
    · cases hj : Nat.beq j g
      · rw [hj] at h1
        have hne : j ≠ g := fun e => by subst e; simp at hj
        cases hs : look j H with
        | none => rw [hs] at h1; exact h1.elim
        | some b0 => rw [hs] at h1; exact .inr ⟨hne, b0, rfl, h1⟩
      · rw [hj] at h1
        exact .inl ⟨Nat.eq_of_beq_eq_true hj, h1⟩
    · exact h2.at p h
section
variable {E : Env} {nt : Nat} {B : Blk} {T : Nat → Option AV} {H : Hp} {a : Act} {w : World} {g n : Nat} {e : TypeId} {xs : List AV}
theorem names_ne {l : List Nat} (h : l.all (fun j => !Nat.beq j g) = true) : ∀ j ∈ l, j ≠ g := fun j hj e => by
  have := List.all_eq_true.1 h j hj
  subst e
  simp at this
theorem thw_unst (hg : H g = some (.own e n xs)) {b o : Nat} (h : unst E B (upd H g (.tail e n xs.length)) b o) : unst E B H b o := by
  rcases h with h | ⟨j, h1, h2⟩
  · exact .inl h
  · refine .inr ⟨j, h1, ?_⟩
    by_cases hj : j = g
    · subst hj; rw [hg]; trivial
    · rwa [upd_ne _ _ hj] at h2
theorem thw_same (hg : H g = some (.own e n xs)) {x : AV} (hx : (namesA x).all (fun j => !Nat.beq j g) = true) {c : List Value} (h : Rd (unst E B H) w x B H c) : Rd (unst E B (upd H g (.tail e n xs.length))) w x B (upd H g (.tail e n xs.length)) c :=
  Rd_names x (fun j hj => ⟨upd_ne _ _ (names_ne hx j hj), rfl⟩) (Rd_go (Evo.refl _ w) (fun b o _ h => thw_unst hg h) x ⟨fun _ _ _ h => h, fun _ h => h, fun _ _ _ _ _ h => h, fun _ _ _ _ _ h => h⟩ h)
theorem thw_own (r : Rel E nt B T H a w) (hg : H g = some (.own e n xs)) {v : Value} (h : OwnOk w B H g n xs.length .row v) : Rd (unst E B (upd H g (.tail e n xs.length))) w (.sl (some g) n xs) B (upd H g (.tail e n xs.length)) [v] := by
  obtain ⟨hn1, hn2⟩ := h.now hg rfl
  obtain ⟨hpos, hbox⟩ := r.ownAt hg
  simp only [Rd]
  rcases hbox with ⟨k1, k2⟩ | ⟨b, cur, cp, c, k1, k2, k3, k4, k5, k6, k7, k8, k9⟩
  · subst k2
    rw [hn1 k1]
    refine ⟨none, 0, rfl, Nat.le_refl _, Nat.zero_le _, fun h => absurd h (by simp), fun t ht => ?_⟩
    injection ht with ht; subst ht
    exact ⟨e, 0, upd_same _ _ _, Nat.le_refl _, fun _ => ⟨fun _ => ⟨rfl, rfl⟩, fun b hb => by rw [k1] at hb; cases hb⟩⟩
  · obtain ⟨cu, m1, cap, m2, m3, m4, m5⟩ := hn2 b k1
    rw [k2] at m1; injection m1 with m1; injection m1 with m1 _ _; subst m1
    rw [m2]
    refine ⟨_, cap, rfl, m3, m4, fun _ => ⟨b, 0, c, rfl, k9, fun o _ ho hun => ?_, Rdu_go (Evo.refl _ w) (fun b o _ h => thw_unst hg h) n xs (Pic.refl0 _ _) k7⟩, fun t ht => ?_⟩
    · rcases hun with ⟨q1, _, q3⟩ | ⟨j, q1, q2⟩
      · rcases k8 with k8 | k8
        · omega
        · exact q3 k8.2.1
      · by_cases hj : j = g
        · subst hj
          rw [upd_same] at q2
          have q2' : xs.length * n ≤ o := q2
          omega
        · rw [upd_ne _ _ hj] at q2
          cases hh : H j with
          | none => rw [hh] at q2; exact q2
          | some bj =>
            rw [hh] at q2
            refine hj (r.inj j g b ?_ (by rw [hg]; rfl) q1 k1)
            rw [hh]
            cases bj <;> first | rfl | exact q2.elim
    · injection ht with ht; subst ht
      refine ⟨e, xs.length, upd_same _ _ _, Nat.le_refl _, fun _ => ⟨fun hn => (by rw [k1] at hn; cases hn), fun b' hb' => ?_⟩⟩
      rw [k1] at hb'; injection hb' with hb'; subst hb'
      exact ⟨rfl, cur, k2, m5⟩
mutual
theorem thw_rd (r : Rel E nt B T H a w) (hg : H g = some (.own e n xs)) : ∀ (x y : AV), Thw g n xs x y → ∀ {c : List Value}, Rd (unst E B H) w x B H c → Rd (unst E B (upd H g (.tail e n xs.length))) w y B (upd H g (.tail e n xs.length)) c
  | .own g' n' len k, y, ht, c, h => by
    simp only [Thw] at ht
    cases hj : Nat.beq g' g
    · rw [hj] at ht
      simp only at ht
      subst ht
      refine thw_same hg ?_ h
      simp [namesA, hj]
    · rw [hj] at ht
      simp only at ht
      obtain ⟨rfl, rfl, rfl, rfl⟩ := ht
      have := Nat.eq_of_beq_eq_true hj
      subst this
      simp only [Rd] at h
      obtain ⟨v, h1, rfl⟩ := h
      exact thw_own r hg h1
  | .agg m fs, y, ht, c, h => by
    simp only [Thw] at ht
    cases y with
    | agg m' us =>
      simp only at ht
      obtain ⟨rfl, ht⟩ := ht
      simp only [Rd] at h ⊢
      exact ⟨h.1, thw_rds r hg fs us ht h.2⟩
    | _ => exact ht.elim
  | .v x, y, ht, c, h => by simp only [Thw] at ht; obtain ⟨h1, rfl⟩ := ht; exact thw_same hg h1 h
  | .arr m k zs, y, ht, c, h => by simp only [Thw] at ht; obtain ⟨h1, rfl⟩ := ht; exact thw_same hg h1 h
  | .ptr j off p, y, ht, c, h => by simp only [Thw] at ht; obtain ⟨h1, rfl⟩ := ht; exact thw_same hg h1 h
  | .ref x, y, ht, c, h => by simp only [Thw] at ht; obtain ⟨h1, rfl⟩ := ht; exact thw_same hg h1 h
  | .sl t k zs, y, ht, c, h => by simp only [Thw] at ht; obtain ⟨h1, rfl⟩ := ht; exact thw_same hg h1 h
  | .seg j off k p l cp, y, ht, c, h => by simp only [Thw] at ht; obtain ⟨h1, rfl⟩ := ht; exact thw_same hg h1 h
  | .tup vs, y, ht, c, h => by simp [Rd] at h
  | .fn f x y', y, ht, c, h => by simp only [Thw] at ht; obtain ⟨h1, rfl⟩ := ht; exact thw_same hg h1 h
  | .ifc t x, y, ht, c, h => by simp only [Thw] at ht; obtain ⟨h1, rfl⟩ := ht; exact thw_same hg h1 h
theorem thw_rds (r : Rel E nt B T H a w) (hg : H g = some (.own e n xs)) : ∀ (l us : List AV), ThwL g n xs l us → ∀ {c : List Value}, Rds (unst E B H) w l B H c → Rds (unst E B (upd H g (.tail e n xs.length))) w us B (upd H g (.tail e n xs.length)) c
  | [], us, ht, c, h => by
    simp only [ThwL] at ht
    subst ht
    simpa [Rds] using h
  | x :: l, us, ht, c, h => by
    simp only [ThwL] at ht
    cases us with
    | nil => exact ht.elim
    | cons u us =>
      simp only at ht
      simp only [Rds] at h ⊢
      obtain ⟨c1, c2, h1, h2, h3⟩ := h
      exact ⟨c1, c2, h1, thw_rd r hg x u ht.1 h2, thw_rds r hg l us ht.2 h3⟩
end
theorem thw_pack : ∀ (x y : AV), Thw g n xs x y → (∀ us, x ≠ .tup us) → (∀ us, y ≠ .tup us) ∧ ∀ (c : List Value), pack x c = pack y c
  | .own g' n' len k, y, ht, _ => by
    simp only [Thw] at ht
    cases hj : Nat.beq g' g
    · rw [hj] at ht
      simp only at ht
      subst ht
      simp
    · rw [hj] at ht
      simp only at ht
      obtain ⟨rfl, rfl, rfl, rfl⟩ := ht
      refine ⟨by simp, fun c => ?_⟩
      match c with
      | [] => rfl
      | [_] => rfl
      | _ :: _ :: _ => rfl
  | .agg m fs, y, ht, _ => by
    simp only [Thw] at ht
    cases y with
    | agg m' us => exact ⟨by simp, fun c => rfl⟩
    | _ => exact ht.elim
  | .v x, y, ht, hn => by simp only [Thw] at ht; obtain ⟨h1, rfl⟩ := ht; exact ⟨hn, fun _ => rfl⟩
  | .arr m k zs, y, ht, hn => by simp only [Thw] at ht; obtain ⟨h1, rfl⟩ := ht; exact ⟨hn, fun _ => rfl⟩
  | .ptr j off p, y, ht, hn => by simp only [Thw] at ht; obtain ⟨h1, rfl⟩ := ht; exact ⟨hn, fun _ => rfl⟩
  | .ref x, y, ht, hn => by simp only [Thw] at ht; obtain ⟨h1, rfl⟩ := ht; exact ⟨hn, fun _ => rfl⟩
  | .sl t k zs, y, ht, hn => by simp only [Thw] at ht; obtain ⟨h1, rfl⟩ := ht; exact ⟨hn, fun _ => rfl⟩
  | .seg j off k p l cp, y, ht, hn => by simp only [Thw] at ht; obtain ⟨h1, rfl⟩ := ht; exact ⟨hn, fun _ => rfl⟩
  | .tup vs, y, ht, hn => absurd rfl (hn vs)
  | .fn f x y', y, ht, hn => by simp only [Thw] at ht; obtain ⟨h1, rfl⟩ := ht; exact ⟨hn, fun _ => rfl⟩
  | .ifc t x, y, ht, hn => by simp only [Thw] at ht; obtain ⟨h1, rfl⟩ := ht; exact ⟨hn, fun _ => rfl⟩
theorem thw_rdv (r : Rel E nt B T H a w) (hg : H g = some (.own e n xs)) {x y : AV} (ht : Thw g n xs x y) {v : Value} (h : Rdv (unst E B H) w B H x v) : Rdv (unst E B (upd H g (.tail e n xs.length))) w B (upd H g (.tail e n xs.length)) y v := by
  rcases isTup x with ⟨us, rfl⟩ | hx
  · simp only [Thw] at ht
    obtain ⟨h1, rfl⟩ := ht
    exact Rdv_names (fun j hj => ⟨upd_ne _ _ (names_ne h1 j hj), rfl⟩) (Rdv_go (Evo.refl _ w) (fun b o _ h => thw_unst hg h) ⟨fun _ _ _ h => h, fun _ h => h, fun _ _ _ _ _ h => h, fun _ _ _ _ _ h => h⟩ h)
  · obtain ⟨k1, k2⟩ := thw_pack x y ht hx
    rw [Rdv_not hx] at h
    rw [Rdv_not k1]
    obtain ⟨c, h1, h2⟩ := h
    exact ⟨c, thw_rd r hg x y ht h1, by rw [h2, k2 c]⟩
end
/-- an own row is let be: a list, which may be appended to -/
theorem Go2.thaw {E : Env} {nt : Nat} {S S' : St} (g : Nat) {n : Nat} {e : TypeId} {xs : List AV} (hg : look g S.H = some (.own e n xs)) (hT : ThwT g n xs S.T S'.T) (hH : ThwH g n e xs S.H S'.H) (hall : S.H.all (fun p => (look p.1 S'.H).isSome) = true) : Go2 E nt S S' := fun B a w r => by
  have hg' : S.h g = some (.own e n xs) := hg
  replace hT := hT.at
  replace hH := hH.at
  have back : ∀ j, S'.h j = none → S.h j = none := fun j hj => by
    cases hh : S.h j with
    | none => rfl
    | some b =>
      have := List.all_eq_true.1 hall _ (look_mem hh)
      rw [show look j S'.H = none from hj] at this
      cases this
  have eH : ∀ j b, S'.h j = some b → j ≠ g → ∃ b0, S.h j = some b0 ∧ ThwB g n xs b0 b := fun j b hj hne => by
    rcases hH (j, b) (look_mem hj) with ⟨h1, _⟩ | ⟨_, b0, h1, h2⟩
    · exact absurd h1 hne
    · exact ⟨b0, h1, h2⟩
  have eg : ∀ b, S'.h g = some b → b = .tail e n xs.length := fun b hb => by
    rcases hH (g, b) (look_mem hb) with ⟨_, h2⟩ | ⟨h1, _⟩
    · exact h2
    · exact absurd rfl h1
  obtain ⟨bg, hbg⟩ : ∃ b, S'.h g = some b := by
    cases hh : S'.h g with
    | none => rw [back g hh] at hg'; cases hg'
    | some b => exact ⟨b, rfl⟩
  have hbg' := eg bg hbg
  subst hbg'
  -- the shapes are as they were
  have kind : ∀ b0 b, ThwB g n xs b0 b → isVar (some b) = isVar (some b0) ∧ live (some b) = live (some b0) ∧ (∀ e' n' k, b = .tail e' n' k ↔ b0 = .tail e' n' k) ∧ ∀ e' n' ys, b = .own e' n' ys ↔ b0 = .own e' n' ys := by
    intro b0 b h
    cases b0 with
    | var x => cases b <;> simp [ThwB] at h <;> simp [isVar, live]
    | froz x => cases b <;> simp [ThwB] at h <;> simp [isVar, live]
    | tail e' n' k => simp only [ThwB] at h; subst h; simp
    | own e' n' ys => simp only [ThwB] at h; subst h; simp
  have hu : ∀ b o, unst E B S'.h b o ↔ unst E B (upd S.h g (.tail e n xs.length)) b o := by
    intro b o
    unfold unst
    refine or_congr Iff.rfl (exists_congr fun j => and_congr_right fun hb => ?_)
    by_cases hj : j = g
    · subst hj; rw [upd_same, hbg]
    · rw [upd_ne _ _ hj]
      cases hh : S'.h j with
      | none => rw [back j hh]
      | some b' =>
        obtain ⟨b0, h1, h2⟩ := eH j b' hh hj
        rw [h1]
        cases b0 with
        | var x => cases b' <;> simp [ThwB] at h2 <;> rfl
        | froz x => cases b' <;> simp [ThwB] at h2 <;> rfl
        | tail e' n' k => simp only [ThwB] at h2; subst h2; rfl
        | own e' n' ys => simp only [ThwB] at h2; subst h2; rfl
  have ue : unst E B (upd S.h g (.tail e n xs.length)) = unst E B S'.h := by
    funext b o; exact propext (hu b o).symm
  have pic : Pic w w B B (upd S.h g (.tail e n xs.length)) S'.h := by
    have at_ : ∀ j b0, upd S.h g (.tail e n xs.length) j = some b0 → ∃ b, S'.h j = some b ∧ isVar (some b) = isVar (some b0) ∧ (∀ e' n' k, b = .tail e' n' k ↔ b0 = .tail e' n' k) ∧ ∀ e' n' ys, b = .own e' n' ys ↔ b0 = .own e' n' ys := by
      intro j b0 h
      by_cases hj : j = g
      · subst hj
        rw [upd_same] at h; injection h with h; subst h
        exact ⟨_, hbg, rfl, fun _ _ _ => Iff.rfl, fun _ _ _ => Iff.rfl⟩
      · rw [upd_ne _ _ hj] at h
        cases hh : S'.h j with
        | none => rw [back j hh] at h; cases h
        | some b =>
          obtain ⟨b1, h1, h2⟩ := eH j b hh hj
          rw [h] at h1; injection h1 with h1; subst h1
          obtain ⟨q1, _, q3, q4⟩ := kind b0 b h2
          exact ⟨b, rfl, q1, q3, q4⟩
    refine ⟨fun _ _ _ h => h, fun j h => ?_, fun t n' len A cap h => ?_, fun j n' len k v h => ?_⟩
    · cases hh : upd S.h g (.tail e n xs.length) j with
      | none => rw [hh] at h; cases h
      | some b0 =>
        obtain ⟨b, h1, h2, _⟩ := at_ j b0 hh
        rw [h1, h2, ← hh]; exact h
    · obtain ⟨e', k, h1, h2, h3⟩ := h
      obtain ⟨b, k1, _, k3, _⟩ := at_ t _ h1
      rw [(k3 e' n' k).2 rfl] at k1
      exact ⟨e', k, k1, h2, h3⟩
    · obtain ⟨e', ys, h1, h2, h3, h4⟩ := h
      obtain ⟨b, k1, _, _, k4⟩ := at_ j _ h1
      rw [(k4 e' n' ys).2 rfl] at k1
      exact ⟨e', ys, k1, h2, h3, h4⟩
  have sub : ∀ b o, b < w.heap.size → unst E B S'.h b o → unst E B (upd S.h g (.tail e n xs.length)) b o := fun b o _ h => (hu b o).1 h
  refine ⟨B, r.nt, r.df, fun s y hy => ?_, fun j b hj => ?_, fun j hj => r.non j (back j hj), fun j j' b h1 h2 h3 h4 => ?_, r.left, fun j hj => r.keep j (back j hj)⟩
  · obtain ⟨x, h1, h2⟩ := hT (s, y) (look_mem hy)
    obtain ⟨v, h3, h4⟩ := r.tmp s x h1
    exact ⟨v, h3, Rdv_go (Evo.refl _ w) sub pic (thw_rdv r hg' h2 h4)⟩
  · by_cases hjg : j = g
    · subst hjg
      rw [hbg] at hj; injection hj with hj; subst hj
      obtain ⟨hn, hT0, hbox⟩ := r.box j _ hg'
      refine ⟨hn, hT0, ?_⟩
      rcases hbox with ⟨k1, k2⟩ | ⟨b, cur, cap, c, k1, k2, k3, k4, k5, k6, k7, k8⟩
      · exact .inl ⟨k1, by rw [k2]; rfl⟩
      · exact .inr ⟨b, cur, cap, k1, k2, k3, k4, k5, k8.mono (Nat.zero_le _)⟩
    · obtain ⟨b0, h1, h2⟩ := eH j b hj hjg
      have hb := r.box j b0 h1
      cases b0 with
      | var x =>
        cases b <;> simp only [ThwB] at h2
        rename_i y
        obtain ⟨bb, cs, t, k1, k2, k3, k4⟩ := hb
        exact ⟨bb, cs, t, k1, k2, Rd_go (Evo.refl _ w) sub y pic (thw_rd r hg' x y h2 k3), k4⟩
      | froz x =>
        cases b <;> simp only [ThwB] at h2
        rename_i y
        obtain ⟨bb, cs, k1, k2, k3, k4⟩ := hb
        exact ⟨bb, cs, k1, k2, fun o q1 q2 q3 => k3 o q1 q2 (thw_unst hg' ((hu _ _).1 q3)), Rd_go (Evo.refl _ w) sub y pic (thw_rd r hg' x y h2 k4)⟩
      | tail e' n' k => simp only [ThwB] at h2; subst h2; exact hb
      | own e' n' ys =>
        simp only [ThwB] at h2; subst h2
        obtain ⟨k0, kT, k1⟩ := hb
        refine ⟨k0, kT, k1.imp id ?_⟩
        rintro ⟨bb, cur, cap, c, m1, m2, m3, m4, m5, m6, m7, m8⟩
        exact ⟨bb, cur, cap, c, m1, m2, m3, m4, m5, m6, Rdu_go (Evo.refl _ w) (fun b o _ h => thw_unst hg' ((hu b o).1 h)) n' ys (Pic.refl0 _ _) m7, m8⟩
  · have lv : ∀ j, live (S'.h j) = true → live (S.h j) = true := fun j hj => by
      by_cases hjg : j = g
      · subst hjg; rw [hg']; rfl
      · cases hh : S'.h j with
        | none => rw [hh] at hj; cases hj
        | some b =>
          obtain ⟨b0, k1, k2⟩ := eH j b hh hjg
          rw [k1, ← (kind b0 b k2).2.1, ← hh]; exact hj
    exact r.inj j j' b (lv j h1) (lv j' h2) h3 h4
section
variable {E : Env} {nt : Nat} {ops : Array Oper} {T : Nat → Option AV} {H : Hp} {d : Option Nat} {ty : TypeId} {pos : String} {af : Array Edge} {gd : Option (Nat × Bool)}
/-- an own row of none -/
theorem o_bsl0O {t e : TypeId} {es bytes : Nat} {ea : Bool} {g : Nat} (hd : dOk nt (some g) = true) (hs : tabT.ti t = some (.sl e (es + 1) bytes ea)) (hg : H g = none) :
    OpOK Try.prog E nt ops ⟨some g, .buildSlice t 0 #[], ty, pos, af, gd⟩ T H [] ⟨.own g (es + 1) 0 .row, [(g, .own e (es + 1) [])]⟩ :=
  ok_eff hd fun B T' H' a w r ht hh hw' => by
    have hg' : H' g = none := (hw' (g, .own e (es + 1) []) (by simp)).trans hg
    obtain ⟨_, hu, hte, i, zv, z1, z2, z3, z4, z5⟩ := tabT.ok t _ hs
    have hrun := run_buildSlice0 w t e i hu z1
    have hfin : (execOp a.eval ⟨some g, .buildSlice t 0 #[], ty, pos, af, gd⟩).run Try.prog w = .ok (.value (.slice (some ⟨w.heap.size, 0, none⟩) 0 0)) (w.alloc (.cells #[] e)) := by simp [execOp, hrun]
    have hm : 0 ≤ maxLen := Nat.zero_le _
    refine ⟨_, _, _, hfin, r.new hg' ⟨Nat.succ_pos es, Tie.none (r.keep _ hg'), .inr ⟨w.heap.size, #[], 0, [], upd_same _ _ _, heap_alloc_new w _, by simp, Nat.le_refl _, hm, fun o ho => by simp at ho, by simp [Rdu], .inl r.left.size⟩⟩, own_i ⟨e, [], upd_same _ _ _, Nat.le_refl _, rfl, fun _ => ⟨fun h => ?_, fun b hb => ?_⟩⟩⟩
    · rw [upd_same] at h; cases h
    · rw [upd_same] at hb; injection hb with hb; subst hb
      exact ⟨#[], heap_alloc_new w _, 0, rfl, Nat.le_refl _, hm, by simp⟩
/-- appended to an own row of none -/
theorem oo_app0 {α : Type} {f : α → AV} {s x : Operand} {t tx e : TypeId} {es bytes : Nat} {ea : Bool} {g : Nat} {zs : List α} {src : AV} (hd : dOk nt d = true) (hs : tabT.ti t = some (.sl e es bytes ea)) (hx : evalO T s = some (.own g es 0 .row)) (hg : H g = some (.own e es []))
    (hy : evalO T x = some src) (hsrc : SrcOf Try.prog tx es src (zs.map f)) (hlen : zs.length * bytes ≤ 140737488355328) (hlen2 : zs.length ≤ 9223372036854775807) :
    OpOK Try.prog E nt ops ⟨d, .call { callee := .builtin .append, args := #[s, x], argTypes := #[t, tx] }, ty, pos, af, gd⟩ T H [g] ⟨.own g es zs.length .row, [(g, .own e es (zs.map f))]⟩ := by
  have := ok_append_own tabT (E := E) (ops := ops) (H := H) (ty := ty) (pos := pos) (af := af) (gd := gd) (len' := zs.length) hd hs hx hg rfl hy hsrc (by simp) (by simpa using hlen) (by simpa using hlen2)
  rwa [List.nil_append] at this
theorem oo_app {α : Type} {f : α → AV} {s x : Operand} {t tx e : TypeId} {es bytes : Nat} {ea : Bool} {g : Nat} {xs zs : List α} {src : AV} (hd : dOk nt d = true) (hs : tabT.ti t = some (.sl e es bytes ea)) (hx : evalO T s = some (.own g es xs.length .row)) (hg : H g = some (.own e es (xs.map f)))
    (hy : evalO T x = some src) (hsrc : SrcOf Try.prog tx es src (zs.map f)) (hlen : (xs.length + zs.length) * bytes ≤ 140737488355328) (hlen2 : xs.length + zs.length ≤ 9223372036854775807) :
    OpOK Try.prog E nt ops ⟨d, .call { callee := .builtin .append, args := #[s, x], argTypes := #[t, tx] }, ty, pos, af, gd⟩ T H [g] ⟨.own g es (xs ++ zs).length .row, [(g, .own e es ((xs ++ zs).map f))]⟩ := by
  have := ok_append_own tabT (E := E) (ops := ops) (H := H) (ty := ty) (pos := pos) (af := af) (gd := gd) (len' := (xs ++ zs).length) hd hs hx hg (by simp) hy hsrc (by simp) (by simpa using hlen) (by simpa using hlen2)
  rwa [← List.map_append] at this
theorem oo_idx {α : Type} {f : α → AV} {x ix : Operand} {t e : TypeId} {es bytes : Nat} {ea : Bool} {g : Nat} {xs : List α} {k : IntKind} {n : Int} {i : Nat} (hd : dOk nt d = true) (hs : tabT.ti t = some (.sl e es bytes ea)) (hx : evalO T x = some (.own g es xs.length .row)) (hg : H g = some (.own e es (xs.map f))) (hi : evalO T ix = some (.v (.int k n))) (hn : natOf n = some i)
    (hl : i < xs.length) : OpOK Try.prog E nt ops ⟨d, .indexAddr t x ix, ty, pos, af, gd⟩ T H [g] ⟨.own g es xs.length (.at (i * es) [i]), []⟩ := by
  have := natOf_eq hn; subst this
  exact ok_idx_own tabT (E := E) (ops := ops) (H := H) (ty := ty) (pos := pos) (af := af) (gd := gd) hd hs hx hg (by simp) hi (Int.natCast_nonneg _) (by omega)
theorem oo_fld {α : Type} {f : α → AV} {x : Operand} {s e : TypeId} {fd n o sz : Nat} {ag : Bool} {fs : List (Nat × Nat × Bool)} {g m off : Nat} {p : List Nat} {xs : List α} (hd : dOk nt d = true) (hx : evalO T x = some (.own g m xs.length (.at off p))) (hg : H g = some (.own e m (xs.map f))) (h0 : 0 < xs.length) (hs : tabT.ti s = some (.st n fs)) (hf : fs[fd]? = some (o, sz + 1, ag)) :
    OpOK Try.prog E nt ops ⟨d, .fieldAddr s x fd, ty, pos, af, gd⟩ T H [g] ⟨.own g m xs.length (.at (off + o) (p ++ [fd])), []⟩ :=
  ok_fld_own tabT (E := E) (ops := ops) (H := H) (ty := ty) (pos := pos) (af := af) (gd := gd) hd hx hg (by simp) (by simpa using h0) hs hf
theorem oo_load {α : Type} {f : α → AV} {x : Operand} {t e : TypeId} {g n off : Nat} {p : List Nat} {xs : List α} {z : AV} (hd : dOk nt d = true) (hx : evalO T x = some (.own g n xs.length (.at off p))) (hg : H g = some (.own e n (xs.map f))) (h0 : 0 < xs.length) (hp : subA p (.arr ((xs.map f).length * n) n (xs.map f)) = some z) (ho : offA p (.arr ((xs.map f).length * n) n (xs.map f)) = off) (hs : tabT.sa t = some (isAggA z, sizeA z)) :
    OpOK Try.prog E nt ops ⟨d, .load t x, ty, pos, af, gd⟩ T H [g] ⟨z, []⟩ :=
  ok_load_own tabT (E := E) (ops := ops) (H := H) (ty := ty) (pos := pos) (af := af) (gd := gd) hd hx hg (by simp) (by simpa using h0) hp ho hs
theorem oo_store {α : Type} {f : α → AV} {x y : Operand} {t e : TypeId} {g n off : Nat} {p : List Nat} {v old : AV} {xs : List α} {ys : List AV} (hx : evalO T x = some (.own g n xs.length (.at off p))) (hy : evalO T y = some v) (hg : H g = some (.own e n (xs.map f))) (h0 : 0 < xs.length) (hp : subA p (.arr ((xs.map f).length * n) n (xs.map f)) = some old) (ho : offA p (.arr ((xs.map f).length * n) n (xs.map f)) = off)
    (hv : setA v p (.arr ((xs.map f).length * n) n (xs.map f)) = some (.arr ((xs.map f).length * n) n ys)) (hs : tabT.sa t = some (isAggA v, sizeA v)) (hs' : sizeA v = sizeA old) (hnt : notTup v = true) : OpOK Try.prog E nt ops ⟨none, .store t x y, ty, pos, af, gd⟩ T H [g] ⟨.tup [], [(g, .own e n ys)]⟩ :=
  ok_store_own tabT (E := E) (ops := ops) (H := H) (ty := ty) (pos := pos) (af := af) (gd := gd) (d := none) rfl hx hy hg (by simp) (by simpa using h0) hp ho hv hs hs' hnt
end
end Go.Proofs.Ytkpjkfjlpiidbaa

namespace Go.Proofs.Ytkpjkfjlpiidbaa
open Go Go.RowKit
set_option linter.unusedVariables false
set_option linter.unusedSimpArgs false
set_option maxRecDepth 100000

section
variable {E : Env} {nt : Nat} {ops : Array Oper} {T : Nat → Option AV} {H : Hp} {d : Option Nat} {ty : TypeId} {pos : String} {af : Array Edge} {gd : Option (Nat × Bool)}
theorem o_addk {x y : Operand} {t t' : TypeId} {a : BitVec 64} (hd : dOk nt d = true) (hx : evalO T x = some (u64A a)) (hy : evalO T y = some (.v (.int .u64 1))) : OpOK Try.prog E nt ops ⟨d, .binOp .add t x y t', ty, pos, af, gd⟩ T H [] ⟨u64A (a + 1#64), []⟩ :=
  o_addu hd hx (hy.trans (by rw [show D64 1#64 = 1 from by rw [D64_def]; rfl]))
end
theorem wQ {Q R : Prop} (k : R) (h : Hid R → Q := by intro kHid; (repeat (first | (first | refine Wend _ ?_ | refine AW_seq ?_ | refine AW_reg ?_ | refine AW_drw mixed ?_ | refine AW_block ?_ | refine AW_scope ?_ | refine thenA_n ?_ | refine blockA_n ?_ | refine blockA_h ?_ | refine scopeA_n ?_ | refine thenA_r ?_ | refine blockA_r ?_ | refine scopeA_r ?_ | refine thenA_e ?_ | refine scopeA_e ?_ | refine blockA_e rfl ?_ | refine AW_exit ?_ | refine AW_ret ?_ | refine AW_skip ?_ | refine AW_c rfl ?_ | with_reducible refine cb_t ?_ | with_reducible refine cb_f ?_ | with_reducible refine cb_yes (by first | assumption | omega) ?_ | with_reducible refine cb_no (by first | assumption | omega) ?_ | refine And.intro (by decide +kernel) ?_) | (first | (apply Wv; (focus (first | exact step_ok rfl rfl | exact o_addk rfl rfl rfl | exact oo_idx rfl rfl rfl rfl rfl rfl (by first | assumption | omega | (simp; done)) | exact oo_fld rfl rfl rfl (by first | assumption | omega | (simp; done)) rfl rfl | exact oo_load rfl rfl rfl (by first | assumption | omega | (simp; done)) rfl rfl rfl | exact o_idx rfl rfl rfl rfl (by first | assumption | omega | decide) | exact o_idx3 rfl rfl rfl rfl (by first | assumption | omega | decide) | exact o_idx2 rfl rfl rfl rfl rfl (by first | assumption | omega | decide) | exact o_idxr rfl rfl rfl rfl rfl rfl | exact o_lenm rfl rfl rfl | exact o_len rfl rfl rfl | exact o_len0 rfl rfl rfl | exact o_lens rfl rfl rfl | exact o_lent rfl rfl | exact o_add1 rfl rfl rfl (by omega) | exact o_addn rfl rfl rfl (by omega) | exact o_add rfl rfl rfl (by omega) | exact o_sub1 rfl rfl rfl (by omega) | exact o_sub rfl rfl rfl (by omega) | exact o_mul rfl rfl rfl (by omega) | exact o_rem rfl rfl rfl (by omega) | exact ok_rem rfl rfl rfl (by decide) rfl | exact o_eqKey rfl rfl rfl | exact o_neKey rfl rfl rfl | exact o_eqVl rfl rfl rfl | exact o_neVl rfl rfl rfl | exact o_eqEnt rfl rfl rfl | exact o_neEnt rfl rfl rfl | exact o_eqMsg rfl rfl rfl | exact o_neMsg rfl rfl rfl | exact o_acall rfl rfl rfl rfl (by assumption) | exact o_minn rfl rfl rfl | exact o_cutl rfl rfl rfl rfl (by omega) | exact o_cuth rfl rfl rfl rfl (by omega) | exact o_cutl3 rfl rfl rfl rfl (by omega) | exact o_cuth3 rfl rfl rfl rfl (by omega) | exact o_cutl2 rfl rfl rfl rfl rfl (by omega) | exact o_cuth2 rfl rfl rfl rfl rfl (by omega) | exact o_cutlh2 rfl rfl rfl rfl rfl rfl rfl (by omega) (by omega) | exact e_bld rfl rfl rfl | exact e_bldk rfl rfl | exact z_bld0 rfl rfl rfl rfl rfl | exact z_bld rfl rfl rfl rfl rfl rfl rfl | exact o_addu rfl rfl rfl | exact z_blda rfl rfl rfl rfl rfl rfl rfl rfl rfl | exact o_idxa rfl rfl rfl rfl rfl rfl | exact o_idxra rfl rfl rfl rfl rfl rfl rfl | exact o_quo2 rfl rfl rfl (by omega) | exact o_quo rfl rfl rfl (by omega))); (focus (first | exact want_n | exact want_g rfl (by with_reducible rfl)))) | (apply Wb; (focus (first | exact o_box rfl rfl rfl rfl | exact o_app rfl rfl rfl rfl rfl (by first | exact o_many rfl | exact o_one _ _ rfl) (by first | omega | (simp; omega) | simp) (by first | omega | (simp; omega) | simp) | exact o_appn rfl rfl rfl rfl rfl (by first | exact o_many rfl | exact o_one _ _ rfl) (by first | omega | (simp; omega) | simp) (by first | omega | (simp; omega) | simp) | exact o_app1 rfl rfl rfl rfl rfl (by first | exact o_many rfl | exact o_one _ _ rfl) (by exact rfl) (by first | omega | (simp; omega) | simp) (by first | omega | (simp; omega) | simp) | exact o_app0 rfl rfl rfl rfl rfl (by first | exact o_many rfl | exact o_one _ _ rfl) (by first | omega | (simp; omega) | simp) (by first | omega | (simp; omega) | simp) | exact o_bsl0O rfl rfl rfl | exact oo_app0 rfl rfl rfl rfl rfl (by first | exact o_many rfl | exact o_one _ _ rfl) (by first | omega | (simp; omega) | simp) (by first | omega | (simp; omega) | simp) | exact z_bsll rfl rfl rfl rfl rfl rfl rfl rfl rfl | exact z_alloc rfl rfl rfl)); (focus (first | exact want_n | exact want_g rfl (by with_reducible rfl)))) | (apply Ws; (focus (first | exact oo_store rfl rfl rfl (by first | assumption | omega | (simp; done)) rfl rfl rfl rfl rfl rfl | exact ok_store tabT (d := none) rfl rfl rfl rfl rfl rfl rfl rfl rfl rfl)); (focus (first | exact want_n | exact want_g rfl (by with_reducible rfl)))) | (refine Wskip (by first | exact want_f rfl (by with_reducible exact b_nt) | exact want_f rfl (by with_reducible exact b_nf) | exact want_t rfl) rfl ?_) | refine Wgt rfl rfl (by first | assumption | omega | exact rfl) ?_ | refine Wgf rfl rfl (by first | assumption | omega | exact rfl) ?_ | (refine Wgb rfl rfl (by with_reducible assumption) ?_) | (refine cb_is _ (by assumption) ?_)))); exact kHid.out) : Q := h ⟨k⟩
theorem kidsL_two (v : Int) (n : Nat) (h : 2 ≤ n) : ∃ x y K, kidsL v n = x :: y :: K ∧ x ≠ y := by
  obtain ⟨m, rfl⟩ : ∃ m, n = m + 2 := ⟨n - 2, by omega⟩
  refine ⟨1 + v % 200 + 7 * ((0 : Nat) : Int), 1 + v % 200 + 7 * ((1 : Nat) : Int), (List.range m).map fun i : Nat => 1 + v % 200 + 7 * ((i + 2 : Nat) : Int), ?_, by omega⟩
  unfold kidsL
  rw [show m + 2 = 1 + 1 + m from by omega, List.range_add, List.range_add, List.map_append, List.map_append]
  simp only [List.range_one, List.map_cons, List.map_nil, List.cons_append, List.nil_append, List.map_map]
  refine congrArg (List.cons _) (congrArg (List.cons _) (List.map_congr_left fun i _ => ?_))
  simp only [Function.comp_apply]
  rw [show 1 + 1 + i = i + 2 from by omega]
theorem seq_up (m : Msg) : { m with seq := m.seq + 1#64 } ≠ m := fun h => by
  have := congrArg Msg.seq h
  simp only at this
  bv_omega
attribute [local irreducible] OpOK AWops AW CondB Go2 AFn thenA inBlockA noGotoA orderOk wantedA
set_option maxRecDepth 100000 in
set_option maxHeartbeats 8000000 in
theorem a_nodeSame (e p : List Int) (v : Int) (l : List Int) (k : Int) (he : (∀ n ∈ e, -9223372036854775808 ≤ n ∧ n ≤ 9223372036854775807)) (hl : p.length ≤ 17592186044400) (hb : (∀ n ∈ p, -9223372036854775808 ≤ n ∧ n ≤ 9223372036854775807)) (hv : (-9223372036854775808 ≤ v ∧ v ≤ 9223372036854775807)) (hlb : (∀ n ∈ l, -9223372036854775808 ≤ n ∧ n ≤ 9223372036854775807)) (hll : l.length ≤ 17592186044400) (hk : (-9223372036854775808 ≤ k ∧ k ≤ 9223372036854775807)) : AFn Try.prog 8 [intsA e, intsA p, intA v, intsA l, intA k] (boolA true) := by
  have c1 := a_inner p v (0 :: l) hl hb hv (fun n hn => by rcases List.mem_cons.1 hn with rfl | hn; omega; exact hlb n hn)
  have c2 := a_lleaf e he
  have sa := innerN_sm p v (0 :: l)
  have hE := entList_lf e 248
  have hEl := entList_len e 248
  have c5 := a_ref07put (entList e 248) (lawMsg k 1) hE (by have := lawMsg_ok k 1; simp only [Msg.ok, Bool.and_eq_true] at this; first | exact this.1.2 | exact this.2.1 | exact this.1.1.2 | exact this.1.2.1 | exact this.1) (by omega)
  have hpl := piv3 p
  have hp1 := pivK_some p 16 3 (by omega)
  obtain ⟨m0, M, hM⟩ : ∃ m0 M, msgList (0 :: l) 205 = m0 :: M := by
    cases h : msgList (0 :: l) 205 with
    | nil => exact absurd h (msgList_some _ _)
    | cons m M => exact ⟨m, M, rfl⟩
  obtain ⟨x0, x1, K, hK, hx⟩ := kidsL_two v ((pivK (16 :: p) 3).length + 1) (by omega)
  have hKl := kidsL_len v ((pivK (16 :: p) 3).length + 1)
  have hMl := msgList_len (0 :: l) 205
  unfold innerN at c1 sa
  unfold leafN at c2
  rw [hM, hK] at c1 sa
  rw [hM] at hMl
  rw [hK] at hKl
  clear hM hK
  generalize pivK (16 :: p) 3 = P at *
  generalize entList e 248 = E0 at *
  generalize lfPut E0 (lawMsg k 1) = E1 at *
  have c6 := a_sameEnts E0 E1 (by omega)
  have sx : Nd.Sm ⟨true, E0, [], [], []⟩ := ⟨by show E0.length ≤ _; omega, Nat.zero_le _, Nat.zero_le _, Nat.zero_le _⟩
  have k1 := a_nodesame ⟨false, [], x0 :: x1 :: K, P, m0 :: M⟩ ⟨false, [], x0 :: x1 :: K, P, m0 :: M⟩ sa
  rw [decide_eq_true rfl] at k1
  have k4 := a_nodesame ⟨true, E0, [], [], []⟩ ⟨true, E1, [], [], []⟩ sx
  have eq : decide ((⟨true, E0, [], [], []⟩ : Nd) = ⟨true, E1, [], [], []⟩) = decide (E0 = E1) := by
    by_cases h : E0 = E1
    · subst h; rw [decide_eq_true rfl, decide_eq_true rfl]
    · rw [decide_eq_false h, decide_eq_false (fun h' => h (congrArg Nd.es h'))]
  rw [eq] at k4
  clear eq
  have k4 := AFn_weak k4 (xs := [Nd.av ⟨true, E0, [], [], []⟩, nodeA true (entsA E1) nilA nilA nilA]) (fun H => .cons (Wk.data rfl) (.cons (Wk.agg (.cons (Wk.data rfl) (.cons (Wk.data rfl) (.cons Wk.nil (.cons Wk.nil (.cons Wk.nil .nil)))))) .nil))
  have k5 := a_nodesame ⟨false, [], x0 :: x1 :: K, P, m0 :: M⟩ ⟨true, E0, [], [], []⟩ sa
  rw [decide_eq_false (fun h => by cases congrArg Nd.leaf h)] at k5
  have cm := a_lmsg k 1 hk (by omega)
  generalize lawMsg k 1 = m1 at *
  have ck := a_lkey k hk
  generalize lawKey k = ky at *
  -- the node with a part turned
  have two : ∀ n : Nd, n.Sm → n ≠ ⟨false, [], x0 :: x1 :: K, P, m0 :: M⟩ → AFn Try.prog 21 [Nd.av ⟨false, [], x0 :: x1 :: K, P, m0 :: M⟩, n.av] (boolA false) ∧ AFn Try.prog 21 [n.av, Nd.av ⟨false, [], x0 :: x1 :: K, P, m0 :: M⟩] (boolA false) := fun n hn hne => by
    have h1 := a_nodesame ⟨false, [], x0 :: x1 :: K, P, m0 :: M⟩ n sa
    have h2 := a_nodesame n ⟨false, [], x0 :: x1 :: K, P, m0 :: M⟩ hn
    rw [decide_eq_false (fun h => hne h.symm)] at h1
    rw [decide_eq_false hne] at h2
    exact ⟨h1, h2⟩
  have t0 := two ⟨false, [], (x0 :: x1 :: K).drop 1 ++ [255], P, m0 :: M⟩ ⟨Nat.zero_le _, by show ((x0 :: x1 :: K).drop 1 ++ [255]).length ≤ _; simp at hKl ⊢; omega, by show P.length ≤ _; omega, by show (m0 :: M).length ≤ _; omega⟩ (fun h => by
    have := congrArg Nd.ks h
    simp only [List.drop_succ_cons, List.drop_zero, List.cons_append, List.cons.injEq] at this
    exact hx this.1.symm)
  have t1 := two ⟨false, [], x0 :: x1 :: K, P ++ [ky], m0 :: M⟩ ⟨Nat.zero_le _, by show (x0 :: x1 :: K).length ≤ _; omega, by show (P ++ [ky]).length ≤ _; simp; omega, by show (m0 :: M).length ≤ _; omega⟩ (fun h => by
    have := congrArg List.length (congrArg Nd.ps h)
    simp at this)
  have t2 := two ⟨false, [], x0 :: x1 :: K, P, { m0 with seq := m0.seq + 1#64 } :: M⟩ ⟨Nat.zero_le _, by show (x0 :: x1 :: K).length ≤ _; omega, by show P.length ≤ _; omega, by show (_ :: M).length ≤ _; simp at hMl ⊢; omega⟩ (fun h => by
    have := congrArg Nd.ms h
    simp only [List.cons.injEq] at this
    exact seq_up m0 this.1)
  have t3 := two ⟨false, [], x0 :: x1 :: K, P, (m0 :: M).drop 1⟩ ⟨Nat.zero_le _, by show (x0 :: x1 :: K).length ≤ _; omega, by show P.length ≤ _; omega, by show ((m0 :: M).drop 1).length ≤ _; simp at hMl ⊢; omega⟩ (fun h => by
    have := congrArg List.length (congrArg Nd.ms h)
    simp at this)
  clear two sx sa hE
  generalize hq : decide (E0 = E1) = q at *
  clear hq
  have c1 : AFn Try.prog 10 [intsA p, intA v, intsA (0 :: l)] (nodeA false (entsA []) (intsA (x0 :: x1 :: K)) (keysA P) (msgsA (m0 :: M))) := c1
  have hK2 : K.length ≤ 2 := by simp only [List.length_cons] at hKl; omega
  have hM1 : 1 ≤ (m0 :: M).length := by simp
  have hM2 : M.length ≤ 59 := by simp only [List.length_cons] at hMl; omega
  have hkm : 0 ≤ k % 4 ∧ k % 4 ≤ 3 := by omega
  refine AFn_intro Try.func8 rfl Try.ntmps8 rfl (by simp) [_] rfl fun E hE => ?_; have hnt : (!true) = false := rfl; have hnf : (!false) = true := rfl
  have d0 := acall Try.func23 (a_awake9) (by decide +kernel) (by decide +kernel)
  have d1 := acall Try.func10 (c1) (by decide +kernel) (by decide +kernel)
  have d2 := acall Try.func9 (c2) (by decide +kernel) (by decide +kernel)
  have d3 := acall Try.func28 (a_lplace k 4 (by omega) (by omega) hk) (by decide +kernel) (by decide +kernel)
  have d4 := acall Try.func29 (ck) (by decide +kernel) (by decide +kernel)
  have d5 := acall Try.func31 (cm) (by decide +kernel) (by decide +kernel)
  have d6 := acall Try.func30 (c5) (by decide +kernel) (by decide +kernel)
  have d7 := acall Try.func32 (c6) (by decide +kernel) (by decide +kernel)
  have f1 := acall Try.func21 (k1) (by decide +kernel) (by decide +kernel)
  have f4 := acall Try.func21 (k4) (by decide +kernel) (by decide +kernel)
  have f5 := acall Try.func21 (k5) (by decide +kernel) (by decide +kernel)
  clear c1 c2 c5 c6 k1 k4 k5 cm ck
  refine wL ?_
  by_cases h0 : k % 4 = 0
  · clear t1 t2 t3
    obtain ⟨t, u⟩ := t0
    have g1 := acall Try.func21 (t) (by decide +kernel) (by decide +kernel)
    have g2 := acall Try.func21 (u) (by decide +kernel) (by decide +kernel)
    refine wL ?_
    refine Was 35 (AV.sl (some 35) 1 (List.map intA [255])) rfl ?_
    cases q
    · refine wL ?_
      exact fin ⟨res_of rfl rfl rfl, trivial⟩
    · refine wL ?_
      exact fin ⟨res_of rfl rfl rfl, trivial⟩
  · by_cases h1 : k % 4 = 1
    · clear t0 t2 t3
      obtain ⟨t, u⟩ := t1
      have g1 := acall Try.func21 (t) (by decide +kernel) (by decide +kernel)
      have g2 := acall Try.func21 (u) (by decide +kernel) (by decide +kernel)
      cases q
      · refine wL ?_
        exact fin ⟨res_of rfl rfl rfl, trivial⟩
      · refine wL ?_
        exact fin ⟨res_of rfl rfl rfl, trivial⟩
    · by_cases h2 : k % 4 = 2
      · clear t0 t1 t3
        obtain ⟨t, u⟩ := t2
        have g1 := acall Try.func21 (t) (by decide +kernel) (by decide +kernel)
        have g2 := acall Try.func21 (u) (by decide +kernel) (by decide +kernel)
        repeat (first | refine Wend _ ?_ | refine AW_seq ?_ | refine AW_reg ?_ | refine AW_drw mixed ?_ | refine AW_block ?_ | refine AW_scope ?_ | refine thenA_n ?_ | refine blockA_n ?_ | refine blockA_h ?_ | refine scopeA_n ?_ | refine thenA_r ?_ | refine blockA_r ?_ | refine scopeA_r ?_ | refine thenA_e ?_ | refine scopeA_e ?_ | refine blockA_e rfl ?_ | refine AW_exit ?_ | refine AW_ret ?_ | refine AW_skip ?_ | refine AW_c rfl ?_ | with_reducible refine cb_t ?_ | with_reducible refine cb_f ?_ | with_reducible refine cb_yes (by first | assumption | omega) ?_ | with_reducible refine cb_no (by first | assumption | omega) ?_ | refine And.intro (by decide +kernel) ?_)
        repeat (first | (apply Wv; (focus (first | exact step_ok rfl rfl | exact o_addk rfl rfl rfl | exact oo_idx rfl rfl rfl rfl rfl rfl (by first | assumption | omega | (simp; done)) | exact oo_fld rfl rfl rfl (by first | assumption | omega | (simp; done)) rfl rfl | exact oo_load rfl rfl rfl (by first | assumption | omega | (simp; done)) rfl rfl rfl | exact o_idx rfl rfl rfl rfl (by first | assumption | omega | decide) | exact o_idx3 rfl rfl rfl rfl (by first | assumption | omega | decide) | exact o_idx2 rfl rfl rfl rfl rfl (by first | assumption | omega | decide) | exact o_idxr rfl rfl rfl rfl rfl rfl | exact o_lenm rfl rfl rfl | exact o_len rfl rfl rfl | exact o_len0 rfl rfl rfl | exact o_lens rfl rfl rfl | exact o_lent rfl rfl | exact o_add1 rfl rfl rfl (by omega) | exact o_addn rfl rfl rfl (by omega) | exact o_add rfl rfl rfl (by omega) | exact o_sub1 rfl rfl rfl (by omega) | exact o_sub rfl rfl rfl (by omega) | exact o_mul rfl rfl rfl (by omega) | exact o_rem rfl rfl rfl (by omega) | exact ok_rem rfl rfl rfl (by decide) rfl | exact o_eqKey rfl rfl rfl | exact o_neKey rfl rfl rfl | exact o_eqVl rfl rfl rfl | exact o_neVl rfl rfl rfl | exact o_eqEnt rfl rfl rfl | exact o_neEnt rfl rfl rfl | exact o_eqMsg rfl rfl rfl | exact o_neMsg rfl rfl rfl | exact o_acall rfl rfl rfl rfl (by assumption) | exact o_minn rfl rfl rfl | exact o_cutl rfl rfl rfl rfl (by omega) | exact o_cuth rfl rfl rfl rfl (by omega) | exact o_cutl3 rfl rfl rfl rfl (by omega) | exact o_cuth3 rfl rfl rfl rfl (by omega) | exact o_cutl2 rfl rfl rfl rfl rfl (by omega) | exact o_cuth2 rfl rfl rfl rfl rfl (by omega) | exact o_cutlh2 rfl rfl rfl rfl rfl rfl rfl (by omega) (by omega) | exact e_bld rfl rfl rfl | exact e_bldk rfl rfl | exact z_bld0 rfl rfl rfl rfl rfl | exact z_bld rfl rfl rfl rfl rfl rfl rfl | exact o_addu rfl rfl rfl | exact z_blda rfl rfl rfl rfl rfl rfl rfl rfl rfl | exact o_idxa rfl rfl rfl rfl rfl rfl | exact o_idxra rfl rfl rfl rfl rfl rfl rfl | exact o_quo2 rfl rfl rfl (by omega) | exact o_quo rfl rfl rfl (by omega))); (focus (first | exact want_n | exact want_g rfl (by with_reducible rfl)))) | (apply Wb; (focus (first | exact o_box rfl rfl rfl rfl | exact o_app rfl rfl rfl rfl rfl (by first | exact o_many rfl | exact o_one _ _ rfl) (by first | omega | (simp; omega) | simp) (by first | omega | (simp; omega) | simp) | exact o_appn rfl rfl rfl rfl rfl (by first | exact o_many rfl | exact o_one _ _ rfl) (by first | omega | (simp; omega) | simp) (by first | omega | (simp; omega) | simp) | exact o_app1 rfl rfl rfl rfl rfl (by first | exact o_many rfl | exact o_one _ _ rfl) (by exact rfl) (by first | omega | (simp; omega) | simp) (by first | omega | (simp; omega) | simp) | exact o_app0 rfl rfl rfl rfl rfl (by first | exact o_many rfl | exact o_one _ _ rfl) (by first | omega | (simp; omega) | simp) (by first | omega | (simp; omega) | simp) | exact o_bsl0O rfl rfl rfl | exact oo_app0 rfl rfl rfl rfl rfl (by first | exact o_many rfl | exact o_one _ _ rfl) (by first | omega | (simp; omega) | simp) (by first | omega | (simp; omega) | simp) | exact z_bsll rfl rfl rfl rfl rfl rfl rfl rfl rfl | exact z_alloc rfl rfl rfl)); (focus (first | exact want_n | exact want_g rfl (by with_reducible rfl)))) | (apply Ws; (focus (first | exact oo_store rfl rfl rfl (by first | assumption | omega | (simp; done)) rfl rfl rfl rfl rfl rfl | exact ok_store tabT (d := none) rfl rfl rfl rfl rfl rfl rfl rfl rfl rfl)); (focus (first | exact want_n | exact want_g rfl (by with_reducible rfl)))) | (refine Wskip (by first | exact want_f rfl (by with_reducible exact b_nt) | exact want_f rfl (by with_reducible exact b_nf) | exact want_t rfl) rfl ?_) | refine Wgt rfl rfl (by first | assumption | omega | exact rfl) ?_ | refine Wgf rfl rfl (by first | assumption | omega | exact rfl) ?_ | (refine Wgb rfl rfl (by with_reducible assumption) ?_) | (refine cb_is _ (by assumption) ?_))
        repeat (first | refine Wend _ ?_ | refine AW_seq ?_ | refine AW_reg ?_ | refine AW_drw mixed ?_ | refine AW_block ?_ | refine AW_scope ?_ | refine thenA_n ?_ | refine blockA_n ?_ | refine blockA_h ?_ | refine scopeA_n ?_ | refine thenA_r ?_ | refine blockA_r ?_ | refine scopeA_r ?_ | refine thenA_e ?_ | refine scopeA_e ?_ | refine blockA_e rfl ?_ | refine AW_exit ?_ | refine AW_ret ?_ | refine AW_skip ?_ | refine AW_c rfl ?_ | with_reducible refine cb_t ?_ | with_reducible refine cb_f ?_ | with_reducible refine cb_yes (by first | assumption | omega) ?_ | with_reducible refine cb_no (by first | assumption | omega) ?_ | refine And.intro (by decide +kernel) ?_)
        repeat (first | (apply Wv; (focus (first | exact step_ok rfl rfl | exact o_addk rfl rfl rfl | exact oo_idx rfl rfl rfl rfl rfl rfl (by first | assumption | omega | (simp; done)) | exact oo_fld rfl rfl rfl (by first | assumption | omega | (simp; done)) rfl rfl | exact oo_load rfl rfl rfl (by first | assumption | omega | (simp; done)) rfl rfl rfl | exact o_idx rfl rfl rfl rfl (by first | assumption | omega | decide) | exact o_idx3 rfl rfl rfl rfl (by first | assumption | omega | decide) | exact o_idx2 rfl rfl rfl rfl rfl (by first | assumption | omega | decide) | exact o_idxr rfl rfl rfl rfl rfl rfl | exact o_lenm rfl rfl rfl | exact o_len rfl rfl rfl | exact o_len0 rfl rfl rfl | exact o_lens rfl rfl rfl | exact o_lent rfl rfl | exact o_add1 rfl rfl rfl (by omega) | exact o_addn rfl rfl rfl (by omega) | exact o_add rfl rfl rfl (by omega) | exact o_sub1 rfl rfl rfl (by omega) | exact o_sub rfl rfl rfl (by omega) | exact o_mul rfl rfl rfl (by omega) | exact o_rem rfl rfl rfl (by omega) | exact ok_rem rfl rfl rfl (by decide) rfl | exact o_eqKey rfl rfl rfl | exact o_neKey rfl rfl rfl | exact o_eqVl rfl rfl rfl | exact o_neVl rfl rfl rfl | exact o_eqEnt rfl rfl rfl | exact o_neEnt rfl rfl rfl | exact o_eqMsg rfl rfl rfl | exact o_neMsg rfl rfl rfl | exact o_acall rfl rfl rfl rfl (by assumption) | exact o_minn rfl rfl rfl | exact o_cutl rfl rfl rfl rfl (by omega) | exact o_cuth rfl rfl rfl rfl (by omega) | exact o_cutl3 rfl rfl rfl rfl (by omega) | exact o_cuth3 rfl rfl rfl rfl (by omega) | exact o_cutl2 rfl rfl rfl rfl rfl (by omega) | exact o_cuth2 rfl rfl rfl rfl rfl (by omega) | exact o_cutlh2 rfl rfl rfl rfl rfl rfl rfl (by omega) (by omega) | exact e_bld rfl rfl rfl | exact e_bldk rfl rfl | exact z_bld0 rfl rfl rfl rfl rfl | exact z_bld rfl rfl rfl rfl rfl rfl rfl | exact o_addu rfl rfl rfl | exact z_blda rfl rfl rfl rfl rfl rfl rfl rfl rfl | exact o_idxa rfl rfl rfl rfl rfl rfl | exact o_idxra rfl rfl rfl rfl rfl rfl rfl | exact o_quo2 rfl rfl rfl (by omega) | exact o_quo rfl rfl rfl (by omega))); (focus (first | exact want_n | exact want_g rfl (by with_reducible rfl)))) | (apply Wb; (focus (first | exact o_box rfl rfl rfl rfl | exact o_app rfl rfl rfl rfl rfl (by first | exact o_many rfl | exact o_one _ _ rfl) (by first | omega | (simp; omega) | simp) (by first | omega | (simp; omega) | simp) | exact o_appn rfl rfl rfl rfl rfl (by first | exact o_many rfl | exact o_one _ _ rfl) (by first | omega | (simp; omega) | simp) (by first | omega | (simp; omega) | simp) | exact o_app1 rfl rfl rfl rfl rfl (by first | exact o_many rfl | exact o_one _ _ rfl) (by exact rfl) (by first | omega | (simp; omega) | simp) (by first | omega | (simp; omega) | simp) | exact o_app0 rfl rfl rfl rfl rfl (by first | exact o_many rfl | exact o_one _ _ rfl) (by first | omega | (simp; omega) | simp) (by first | omega | (simp; omega) | simp) | exact o_bsl0O rfl rfl rfl | exact oo_app0 rfl rfl rfl rfl rfl (by first | exact o_many rfl | exact o_one _ _ rfl) (by first | omega | (simp; omega) | simp) (by first | omega | (simp; omega) | simp) | exact z_bsll rfl rfl rfl rfl rfl rfl rfl rfl rfl | exact z_alloc rfl rfl rfl)); (focus (first | exact want_n | exact want_g rfl (by with_reducible rfl)))) | (apply Ws; (focus (first | exact oo_store rfl rfl rfl (by first | assumption | omega | (simp; done)) rfl rfl rfl rfl rfl rfl | exact ok_store tabT (d := none) rfl rfl rfl rfl rfl rfl rfl rfl rfl rfl)); (focus (first | exact want_n | exact want_g rfl (by with_reducible rfl)))) | (refine Wskip (by first | exact want_f rfl (by with_reducible exact b_nt) | exact want_f rfl (by with_reducible exact b_nf) | exact want_t rfl) rfl ?_) | refine Wgt rfl rfl (by first | assumption | omega | exact rfl) ?_ | refine Wgf rfl rfl (by first | assumption | omega | exact rfl) ?_ | (refine Wgb rfl rfl (by with_reducible assumption) ?_) | (refine cb_is _ (by assumption) ?_))
        repeat (first | refine Wend _ ?_ | refine AW_seq ?_ | refine AW_reg ?_ | refine AW_drw mixed ?_ | refine AW_block ?_ | refine AW_scope ?_ | refine thenA_n ?_ | refine blockA_n ?_ | refine blockA_h ?_ | refine scopeA_n ?_ | refine thenA_r ?_ | refine blockA_r ?_ | refine scopeA_r ?_ | refine thenA_e ?_ | refine scopeA_e ?_ | refine blockA_e rfl ?_ | refine AW_exit ?_ | refine AW_ret ?_ | refine AW_skip ?_ | refine AW_c rfl ?_ | with_reducible refine cb_t ?_ | with_reducible refine cb_f ?_ | with_reducible refine cb_yes (by first | assumption | omega) ?_ | with_reducible refine cb_no (by first | assumption | omega) ?_ | refine And.intro (by decide +kernel) ?_)
        repeat (first | (apply Wv; (focus (first | exact step_ok rfl rfl | exact o_addk rfl rfl rfl | exact oo_idx rfl rfl rfl rfl rfl rfl (by first | assumption | omega | (simp; done)) | exact oo_fld rfl rfl rfl (by first | assumption | omega | (simp; done)) rfl rfl | exact oo_load rfl rfl rfl (by first | assumption | omega | (simp; done)) rfl rfl rfl | exact o_idx rfl rfl rfl rfl (by first | assumption | omega | decide) | exact o_idx3 rfl rfl rfl rfl (by first | assumption | omega | decide) | exact o_idx2 rfl rfl rfl rfl rfl (by first | assumption | omega | decide) | exact o_idxr rfl rfl rfl rfl rfl rfl | exact o_lenm rfl rfl rfl | exact o_len rfl rfl rfl | exact o_len0 rfl rfl rfl | exact o_lens rfl rfl rfl | exact o_lent rfl rfl | exact o_add1 rfl rfl rfl (by omega) | exact o_addn rfl rfl rfl (by omega) | exact o_add rfl rfl rfl (by omega) | exact o_sub1 rfl rfl rfl (by omega) | exact o_sub rfl rfl rfl (by omega) | exact o_mul rfl rfl rfl (by omega) | exact o_rem rfl rfl rfl (by omega) | exact ok_rem rfl rfl rfl (by decide) rfl | exact o_eqKey rfl rfl rfl | exact o_neKey rfl rfl rfl | exact o_eqVl rfl rfl rfl | exact o_neVl rfl rfl rfl | exact o_eqEnt rfl rfl rfl | exact o_neEnt rfl rfl rfl | exact o_eqMsg rfl rfl rfl | exact o_neMsg rfl rfl rfl | exact o_acall rfl rfl rfl rfl (by assumption) | exact o_minn rfl rfl rfl | exact o_cutl rfl rfl rfl rfl (by omega) | exact o_cuth rfl rfl rfl rfl (by omega) | exact o_cutl3 rfl rfl rfl rfl (by omega) | exact o_cuth3 rfl rfl rfl rfl (by omega) | exact o_cutl2 rfl rfl rfl rfl rfl (by omega) | exact o_cuth2 rfl rfl rfl rfl rfl (by omega) | exact o_cutlh2 rfl rfl rfl rfl rfl rfl rfl (by omega) (by omega) | exact e_bld rfl rfl rfl | exact e_bldk rfl rfl | exact z_bld0 rfl rfl rfl rfl rfl | exact z_bld rfl rfl rfl rfl rfl rfl rfl | exact o_addu rfl rfl rfl | exact z_blda rfl rfl rfl rfl rfl rfl rfl rfl rfl | exact o_idxa rfl rfl rfl rfl rfl rfl | exact o_idxra rfl rfl rfl rfl rfl rfl rfl | exact o_quo2 rfl rfl rfl (by omega) | exact o_quo rfl rfl rfl (by omega))); (focus (first | exact want_n | exact want_g rfl (by with_reducible rfl)))) | (apply Wb; (focus (first | exact o_box rfl rfl rfl rfl | exact o_app rfl rfl rfl rfl rfl (by first | exact o_many rfl | exact o_one _ _ rfl) (by first | omega | (simp; omega) | simp) (by first | omega | (simp; omega) | simp) | exact o_appn rfl rfl rfl rfl rfl (by first | exact o_many rfl | exact o_one _ _ rfl) (by first | omega | (simp; omega) | simp) (by first | omega | (simp; omega) | simp) | exact o_app1 rfl rfl rfl rfl rfl (by first | exact o_many rfl | exact o_one _ _ rfl) (by exact rfl) (by first | omega | (simp; omega) | simp) (by first | omega | (simp; omega) | simp) | exact o_app0 rfl rfl rfl rfl rfl (by first | exact o_many rfl | exact o_one _ _ rfl) (by first | omega | (simp; omega) | simp) (by first | omega | (simp; omega) | simp) | exact o_bsl0O rfl rfl rfl | exact oo_app0 rfl rfl rfl rfl rfl (by first | exact o_many rfl | exact o_one _ _ rfl) (by first | omega | (simp; omega) | simp) (by first | omega | (simp; omega) | simp) | exact z_bsll rfl rfl rfl rfl rfl rfl rfl rfl rfl | exact z_alloc rfl rfl rfl)); (focus (first | exact want_n | exact want_g rfl (by with_reducible rfl)))) | (apply Ws; (focus (first | exact oo_store rfl rfl rfl (by first | assumption | omega | (simp; done)) rfl rfl rfl rfl rfl rfl | exact ok_store tabT (d := none) rfl rfl rfl rfl rfl rfl rfl rfl rfl rfl)); (focus (first | exact want_n | exact want_g rfl (by with_reducible rfl)))) | (refine Wskip (by first | exact want_f rfl (by with_reducible exact b_nt) | exact want_f rfl (by with_reducible exact b_nf) | exact want_t rfl) rfl ?_) | refine Wgt rfl rfl (by first | assumption | omega | exact rfl) ?_ | refine Wgf rfl rfl (by first | assumption | omega | exact rfl) ?_ | (refine Wgb rfl rfl (by with_reducible assumption) ?_) | (refine cb_is _ (by assumption) ?_))
        repeat (first | refine Wend _ ?_ | refine AW_seq ?_ | refine AW_reg ?_ | refine AW_drw mixed ?_ | refine AW_block ?_ | refine AW_scope ?_ | refine thenA_n ?_ | refine blockA_n ?_ | refine blockA_h ?_ | refine scopeA_n ?_ | refine thenA_r ?_ | refine blockA_r ?_ | refine scopeA_r ?_ | refine thenA_e ?_ | refine scopeA_e ?_ | refine blockA_e rfl ?_ | refine AW_exit ?_ | refine AW_ret ?_ | refine AW_skip ?_ | refine AW_c rfl ?_ | with_reducible refine cb_t ?_ | with_reducible refine cb_f ?_ | with_reducible refine cb_yes (by first | assumption | omega) ?_ | with_reducible refine cb_no (by first | assumption | omega) ?_ | refine And.intro (by decide +kernel) ?_)
        repeat (first | (apply Wv; (focus (first | exact step_ok rfl rfl | exact o_addk rfl rfl rfl | exact oo_idx rfl rfl rfl rfl rfl rfl (by first | assumption | omega | (simp; done)) | exact oo_fld rfl rfl rfl (by first | assumption | omega | (simp; done)) rfl rfl | exact oo_load rfl rfl rfl (by first | assumption | omega | (simp; done)) rfl rfl rfl | exact o_idx rfl rfl rfl rfl (by first | assumption | omega | decide) | exact o_idx3 rfl rfl rfl rfl (by first | assumption | omega | decide) | exact o_idx2 rfl rfl rfl rfl rfl (by first | assumption | omega | decide) | exact o_idxr rfl rfl rfl rfl rfl rfl | exact o_lenm rfl rfl rfl | exact o_len rfl rfl rfl | exact o_len0 rfl rfl rfl | exact o_lens rfl rfl rfl | exact o_lent rfl rfl | exact o_add1 rfl rfl rfl (by omega) | exact o_addn rfl rfl rfl (by omega) | exact o_add rfl rfl rfl (by omega) | exact o_sub1 rfl rfl rfl (by omega) | exact o_sub rfl rfl rfl (by omega) | exact o_mul rfl rfl rfl (by omega) | exact o_rem rfl rfl rfl (by omega) | exact ok_rem rfl rfl rfl (by decide) rfl | exact o_eqKey rfl rfl rfl | exact o_neKey rfl rfl rfl | exact o_eqVl rfl rfl rfl | exact o_neVl rfl rfl rfl | exact o_eqEnt rfl rfl rfl | exact o_neEnt rfl rfl rfl | exact o_eqMsg rfl rfl rfl | exact o_neMsg rfl rfl rfl | exact o_acall rfl rfl rfl rfl (by assumption) | exact o_minn rfl rfl rfl | exact o_cutl rfl rfl rfl rfl (by omega) | exact o_cuth rfl rfl rfl rfl (by omega) | exact o_cutl3 rfl rfl rfl rfl (by omega) | exact o_cuth3 rfl rfl rfl rfl (by omega) | exact o_cutl2 rfl rfl rfl rfl rfl (by omega) | exact o_cuth2 rfl rfl rfl rfl rfl (by omega) | exact o_cutlh2 rfl rfl rfl rfl rfl rfl rfl (by omega) (by omega) | exact e_bld rfl rfl rfl | exact e_bldk rfl rfl | exact z_bld0 rfl rfl rfl rfl rfl | exact z_bld rfl rfl rfl rfl rfl rfl rfl | exact o_addu rfl rfl rfl | exact z_blda rfl rfl rfl rfl rfl rfl rfl rfl rfl | exact o_idxa rfl rfl rfl rfl rfl rfl | exact o_idxra rfl rfl rfl rfl rfl rfl rfl | exact o_quo2 rfl rfl rfl (by omega) | exact o_quo rfl rfl rfl (by omega))); (focus (first | exact want_n | exact want_g rfl (by with_reducible rfl)))) | (apply Wb; (focus (first | exact o_box rfl rfl rfl rfl | exact o_app rfl rfl rfl rfl rfl (by first | exact o_many rfl | exact o_one _ _ rfl) (by first | omega | (simp; omega) | simp) (by first | omega | (simp; omega) | simp) | exact o_appn rfl rfl rfl rfl rfl (by first | exact o_many rfl | exact o_one _ _ rfl) (by first | omega | (simp; omega) | simp) (by first | omega | (simp; omega) | simp) | exact o_app1 rfl rfl rfl rfl rfl (by first | exact o_many rfl | exact o_one _ _ rfl) (by exact rfl) (by first | omega | (simp; omega) | simp) (by first | omega | (simp; omega) | simp) | exact o_app0 rfl rfl rfl rfl rfl (by first | exact o_many rfl | exact o_one _ _ rfl) (by first | omega | (simp; omega) | simp) (by first | omega | (simp; omega) | simp) | exact o_bsl0O rfl rfl rfl | exact oo_app0 rfl rfl rfl rfl rfl (by first | exact o_many rfl | exact o_one _ _ rfl) (by first | omega | (simp; omega) | simp) (by first | omega | (simp; omega) | simp) | exact z_bsll rfl rfl rfl rfl rfl rfl rfl rfl rfl | exact z_alloc rfl rfl rfl)); (focus (first | exact want_n | exact want_g rfl (by with_reducible rfl)))) | (apply Ws; (focus (first | exact oo_store rfl rfl rfl (by first | assumption | omega | (simp; done)) rfl rfl rfl rfl rfl rfl | exact ok_store tabT (d := none) rfl rfl rfl rfl rfl rfl rfl rfl rfl rfl)); (focus (first | exact want_n | exact want_g rfl (by with_reducible rfl)))) | (refine Wskip (by first | exact want_f rfl (by with_reducible exact b_nt) | exact want_f rfl (by with_reducible exact b_nf) | exact want_t rfl) rfl ?_) | refine Wgt rfl rfl (by first | assumption | omega | exact rfl) ?_ | refine Wgf rfl rfl (by first | assumption | omega | exact rfl) ?_ | (refine Wgb rfl rfl (by with_reducible assumption) ?_) | (refine cb_is _ (by assumption) ?_))
        refine Wend _ ?_
        refine And.intro (by decide +kernel) ?_
        refine blockA_n ?_
        refine thenA_n ?_
        refine AW_go (S' := ⟨[(0, intsA e), (4, intA k), (11, .ptr 11 0 []), (12, .ptr 12 0 [])], [(11, .var (nodeA false (entsA []) (intsA (x0 :: x1 :: K)) (keysA P) (msgsA (m0 :: M)))), (12, .var (nodeA false (entsA []) (intsA (x0 :: x1 :: K)) (keysA P) (.own 51 29 (m0 :: M).length .row))), (51, .own 48 29 (({ m0 with seq := m0.seq + 1#64 } :: M).map Msg.av))]⟩) (by (refine Go2.sub ⟨?_, ?_, ?_⟩ <;> repeat' (first | exact True.intro | rfl | apply And.intro))) ?_
        refine AW_go (Go2.thaw (S' := ⟨[(0, intsA e), (4, intA k), (11, .ptr 11 0 []), (12, .ptr 12 0 [])], [(11, .var (nodeA false (entsA []) (intsA (x0 :: x1 :: K)) (keysA P) (msgsA (m0 :: M)))), (12, .var (nodeA false (entsA []) (intsA (x0 :: x1 :: K)) (keysA P) (.sl (some 51) 29 (({ m0 with seq := m0.seq + 1#64 } :: M).map Msg.av)))), (51, .tail 48 29 (({ m0 with seq := m0.seq + 1#64 } :: M).map Msg.av).length)]⟩) 51 rfl (by repeat' (first | exact True.intro | rfl | apply And.intro | (simp; done))) (by repeat' (first | exact True.intro | rfl | apply And.intro | (simp; done))) rfl) ?_
        cases q
        · refine wL ?_
          exact fin ⟨res_of rfl rfl rfl, trivial⟩
        · refine wL ?_
          exact fin ⟨res_of rfl rfl rfl, trivial⟩
      · clear t0 t1 t2
        obtain ⟨t, u⟩ := t3
        have g1 := acall Try.func21 (t) (by decide +kernel) (by decide +kernel)
        have g2 := acall Try.func21 (u) (by decide +kernel) (by decide +kernel)
        cases q
        · refine wL ?_
          exact fin ⟨res_of rfl rfl rfl, trivial⟩
        · refine wL ?_
          exact fin ⟨res_of rfl rfl rfl, trivial⟩
theorem nodeSame_walk (v0 : Value) (l0 : List (Int)) (v1 : Value) (l1 : List (Int)) (n2 : Int) (v3 : Value) (l3 : List (Int)) (n4 : Int) (w : World) (s0 : Sl ie 1 w v0 l0) (g0 : ∀ n ∈ l0, -9223372036854775808 ≤ n ∧ n ≤ 9223372036854775807) (z0 : l0.length ≤ 17592186043904) (s1 : Sl ie 1 w v1 l1) (g1 : ∀ n ∈ l1, -9223372036854775808 ≤ n ∧ n ≤ 9223372036854775807) (z1 : l1.length ≤ 17592186043904) (b2 : -9223372036854775808 ≤ n2 ∧ n2 ≤ 9223372036854775807) (s3 : Sl ie 1 w v3 l3) (g3 : ∀ n ∈ l3, -9223372036854775808 ≤ n ∧ n ≤ 9223372036854775807) (z3 : l3.length ≤ 17592186043904) (b4 : -9223372036854775808 ≤ n4 ∧ n4 ≤ 9223372036854775807) :
    Calls Try.prog 8 #[v0, v1, .int .i64 n2, v3, .int .i64 n4] w (Is w (.bool true)) :=
  law_of (a_nodeSame l0 l1 n2 l3 n4 g0 (by omega) g1 b2 g3 (by omega) b4) (rdp_cons rfl (ints_in s0) (rdp_cons rfl (ints_in s1) (rdp_cons rfl int_in (rdp_cons rfl (ints_in s3) (rdp_cons rfl int_in rdp_nil')))))
end Go.Proofs.Ytkpjkfjlpiidbaa
