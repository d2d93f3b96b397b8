/-
  M5: several texts as one: NodeFacts, NodeAwake, StructIn, NodeIn, NodeFits, LawNode1, LawNode2. No condition beyond those that each theorem states.
-/
import Derived.Test.YtkpjkfjlpiidbaaM4
import Derived.OpenShut
import Derived.Deep.Slices
import Derived.Deep.Strs
import Derived.WideShapes
namespace Go.Proofs.Ytkpjkfjlpiidbaa
open Go Go.RowKit
set_option linter.unusedVariables false
set_option linter.unusedSimpArgs false
set_option maxRecDepth 100000

theorem AFn_weak {P : Program} {f : FuncId} {xs ys : List AV} {r : AV} (h : AFn P f ys r) (hw : ∀ H, WkL H xs ys) : AFn P f xs r := fun U w vs hr => h U w vs ((hw H0).rdp hr)
theorem piv3 (p : List Int) : (pivK (16 :: p) 3).length ≤ 3 := by
  have := pivK_le (16 :: p) 3 (by omega)
  omega
theorem innerN_sm (p : List Int) (v : Int) (l : List Int) : (innerN p v l).Sm := by
  have h1 := piv3 p
  have h2 := msgList_len l 205
  have h3 := kidsL_len v ((pivK (16 :: p) 3).length + 1)
  exact ⟨Nat.zero_le _, by show (kidsL v _).length ≤ _; omega, by show (pivK _ _).length ≤ _; omega, by show (msgList _ _).length ≤ _; omega⟩
theorem leafN_sm (l : List Int) : (leafN l).Sm := ⟨by have := entList_len l 248; show (entList l 248).length ≤ _; omega, Nat.zero_le _, Nat.zero_le _, Nat.zero_le _⟩
theorem innerN_ok (p : List Int) (v : Int) (l : List Int) : nodeOk keyCmp (innerN p v l) = true := by
  unfold nodeOk innerOk
  rw [if_neg (show ¬ (innerN p v l).leaf = true from by simp [innerN])]
  rw [show fanOkBy keyCmp (innerN p v l).ks (innerN p v l).ps = true from two_ok v p, show msgsOkB keyCmp (innerN p v l).ms = true from msgsOkB_true (msgList_bf l 205).msgs]
  rfl
theorem innerN_sum (p : List Int) (v : Int) (l : List Int) : bSum (innerN p v l).ms ≤ 205 := msgList_sum l 205 (by omega)
theorem innerN_fits (p : List Int) (v : Int) (l : List Int) : nodeFits (innerN p v l) = true := by
  unfold nodeFits
  rw [innerN_ok]
  have := innerN_sum p v l
  rw [if_neg (show ¬ (innerN p v l).leaf = true from by simp [innerN])]
  rw [Bool.true_and, decide_eq_true_eq]
  unfold ndBytes
  rw [if_neg (show ¬ (innerN p v l).leaf = true from by simp [innerN])]
  exact this
theorem leafN_ok (l : List Int) : nodeOk keyCmp (leafN l) = true := by
  unfold nodeOk leafOk
  rw [if_pos (show (leafN l).leaf = true from rfl)]
  rw [show entsOkB keyCmp (leafN l).es = true from entsOkB_true (entList_lf l 248).ents]
  rfl
theorem leafN_ebd (l : List Int) : EBd (leafN l).es := (entList_lf l 248).ok.bd
theorem leafN_fits (l : List Int) : nodeFits (leafN l) = true := by
  unfold nodeFits ndBytes
  rw [leafN_ok, if_pos (show (leafN l).leaf = true from rfl), if_pos (show (leafN l).leaf = true from rfl), Bool.true_and, decide_eq_true_eq]
  exact entsF_sum l 248 (by omega) 80
/-! ### all weights together -/
theorem wts_sum (n : Nd) (hr : Rise n.ps) : ∀ j, j ≤ n.ps.length + 1 → (wtsAt n j).sum = bSum (n.ms.take (accP n.ps n.ms j))
  | 0, _ => by rw [accP_zero]; rfl
  | j + 1, h => by
    rw [wtsAt_succ, List.sum_append, wts_sum n hr j (by omega), ← accP_step hr n.ms j (by omega), bSum_append]
    simp
theorem wts_all (n : Nd) (hr : Rise n.ps) (hk : n.ks.length = n.ps.length + 1) : (wtsAt n n.ks.length).sum = bSum n.ms := by
  rw [wts_sum n hr _ (by omega), hk, accP_end, List.take_length]
theorem wts_nn (n : Nd) (j : Nat) : ∀ x ∈ wtsAt n j, 0 ≤ x := fun x hx => by
  obtain ⟨i, _, rfl⟩ := List.mem_map.1 hx
  exact (bSum_le _).1
theorem sum_zero : ∀ (w : List Int), (∀ x ∈ w, x = 0) → w.sum = 0
  | [], _ => rfl
  | x :: l, h => by rw [List.sum_cons, h x List.mem_cons_self, sum_zero l (fun y hy => h y (List.mem_cons_of_mem _ hy))]; rfl
theorem sum_nn : ∀ (w : List Int), (∀ x ∈ w, 0 ≤ x) → 0 ≤ w.sum ∧ ∀ x ∈ w, x ≤ w.sum
  | [], _ => ⟨Int.le_refl _, fun x h => by cases h⟩
  | y :: l, h => by
    obtain ⟨h1, h2⟩ := sum_nn l (fun z hz => h z (List.mem_cons_of_mem _ hz))
    have h3 := h y List.mem_cons_self
    rw [List.sum_cons]
    refine ⟨by omega, fun x hx => ?_⟩
    rcases List.mem_cons.1 hx with rfl | hx
    · omega
    · have := h2 x hx; omega
theorem size_pos {m : Msg} (h : m.ok = true) : 0 < m.size := by
  have h1 := (Msg.spec h).2.2.1
  have h2 := Key.n_le h1
  unfold Msg.size
  rw [if_pos h]
  split
  · have := Vl.n_le (Msg.spec h).2.2.2.1; omega
  · split <;> omega
theorem bSum_zero {l : List Msg} (h : Bf l) (h0 : bSum l = 0) : l = [] := by
  cases l with
  | nil => rfl
  | cons m l =>
    have h1 := size_pos (h.ok m List.mem_cons_self)
    have h2 := (bSum_le l).1
    have : bSum (m :: l) = m.size + bSum l := by simp [bSum]
    omega
theorem hv_bd (w : List Int) : -1 ≤ hvOf w ∧ hvOf w < (w.length : Int) := by
  unfold hvOf
  rcases hvAt_is w w.length (Nat.le_refl _) with ⟨e1, _, _⟩ | ⟨a, ha, _, e1, _⟩
  · rw [e1]; omega
  · rw [e1]; omega
/-- none is heaviest just if there is nothing -/
theorem hv_none (n : Nd) (hb : Bf n.ms) (hr : Rise n.ps) (hk : n.ks.length = n.ps.length + 1) : hvOf (wtsAt n n.ks.length) = -1 ↔ n.ms = [] := by
  have hs := wts_all n hr hk
  have hn := wts_nn n n.ks.length
  unfold hvOf
  rcases hvAt_is (wtsAt n n.ks.length) _ (Nat.le_refl _) with ⟨e1, _, e3⟩ | ⟨a, ha, _, e1, _, e3, _⟩
  · constructor
    · intro _
      apply bSum_zero hb
      rw [← hs]
      apply sum_zero
      intro x hx
      obtain ⟨i, hi, rfl⟩ := List.getElem_of_mem hx
      have := e3 i hi hi
      have := hn _ hx
      omega
    · intro _; exact e1
  · constructor
    · intro h; rw [e1] at h; omega
    · intro h
      rw [h] at hs
      have h1 := (sum_nn _ hn).2 _ (List.getElem_mem ha)
      have h2 : bSum ([] : List Msg) = 0 := rfl
      omega
theorem innerN_kids (p : List Int) (v : Int) (l : List Int) : (innerN p v l).ks.length = (innerN p v l).ps.length + 1 := kidsL_len v _
theorem innerN_bf (p : List Int) (v : Int) (l : List Int) : Bf (innerN p v l).ms := msgList_bf l 205
theorem innerN_rise (p : List Int) (v : Int) (l : List Int) : Rise (innerN p v l).ps := pivK_rise _ _
def wtsN (p : List Int) (v : Int) (l : List Int) : List Int := wtsAt (innerN p v l) (innerN p v l).ks.length
theorem wtsN_len (p : List Int) (v : Int) (l : List Int) : (wtsN p v l).length = (innerN p v l).ks.length := wtsAt_len _ _
theorem wtsN_le (p : List Int) (v : Int) (l : List Int) : (wtsN p v l).length ≤ 4 := by
  rw [wtsN_len, innerN_kids]
  have := piv3 p
  show (pivK _ _).length + 1 ≤ 4
  omega
theorem hvN_none (p : List Int) (v : Int) (l : List Int) : hvOf (wtsN p v l) = -1 ↔ (innerN p v l).ms = [] := hv_none _ (innerN_bf p v l) (innerN_rise p v l) (innerN_kids p v l)
theorem a_weightsN (p : List Int) (v : Int) (l : List Int) : AFn Try.prog 11 [(innerN p v l).av] (intsA (wtsN p v l)) := by
  have h := innerN_sm p v l
  have h1 := piv3 p
  have h2 := msgList_len l 205
  exact a_weights_inner _ _ _ _ (innerN_bf p v l).srt (Nat.le_of_eq (innerN_kids p v l)) (by omega) (by omega)
theorem a_refweightsN (p : List Int) (v : Int) (l : List Int) : AFn Try.prog 12 [(innerN p v l).av] (intsA (wtsN p v l)) := by
  have h1 := piv3 p
  have h2 := msgList_len l 205
  exact a_refweights_inner _ _ _ _ (innerN_bf p v l) (innerN_rise p v l) (Nat.le_of_eq (innerN_kids p v l)) (by omega) (by omega)
theorem bfAdd_ne (l : List Msg) (m : Msg) : bfAdd l m ≠ [] := by unfold bfAdd bfSet; simp
theorem msgsF_ne (l : List Int) : ∀ j, msgsF l 205 (j + 1) ≠ []
  | 0 => by
    show msgStep 205 [] _ ≠ []
    unfold msgStep
    have h1 := (bSum_le (bfAdd [] (lawMsg (l.getD 0 0) ((0 + 1 : Nat) : Int)))).2
    have h2 : (bfAdd [] (lawMsg (l.getD 0 0) ((0 + 1 : Nat) : Int))).length = 1 := rfl
    rw [if_pos (Int.le_trans h1 (by rw [h2]; decide))]
    exact bfAdd_ne _ _
  | j + 1 => by
    show msgStep 205 (msgsF l 205 (j + 1)) _ ≠ []
    unfold msgStep
    split
    · exact bfAdd_ne _ _
    · exact msgsF_ne l j
theorem msgList_some (x : Int) (l : List Int) : msgList (x :: l) 205 ≠ [] := by
  unfold msgList
  have h : min (x :: l).length 60 = (min l.length 59) + 1 := by simp only [List.length_cons]; omega
  rw [h]
  exact msgsF_ne _ _
end Go.Proofs.Ytkpjkfjlpiidbaa

namespace Go.Proofs.Ytkpjkfjlpiidbaa
open Go Go.RowKit
set_option linter.unusedVariables false
set_option linter.unusedSimpArgs false
set_option maxRecDepth 100000

theorem wk_nils (n : Nat) : ∀ H, Wk H nilA (.sl none n []) := fun _ => Wk.nil
theorem a_inner30 (x : Int) (l : List Int) (hl : l = [] ∨ True) (hb : ∀ n ∈ l, -9223372036854775808 ≤ n ∧ n ≤ 9223372036854775807) : AFn Try.prog 10 [nilA, intA 3, intsA l] (innerN [] 3 l).av :=
  AFn_weak (a_inner [] 3 l (by simp) (by simp) (by omega) hb) fun H => .cons Wk.nil (.cons (Wk.data rfl) (.cons (Wk.data rfl) .nil))
theorem a_inner300 : AFn Try.prog 10 [nilA, intA 3, nilA] (innerN [] 3 []).av :=
  AFn_weak (a_inner [] 3 [] (by simp) (by simp) (by omega) (by simp)) fun H => .cons Wk.nil (.cons (Wk.data rfl) (.cons Wk.nil .nil))
theorem a_check0 : AFn Try.prog 15 [nodeA false nilA nilA nilA nilA] (boolA false) := by
  have h := a_nodecheck ⟨false, [], [], [], []⟩ ⟨by simp, by simp, by simp, by simp⟩
  have e : nodeOk keyCmp ⟨false, [], [], [], []⟩ = false := by
    unfold nodeOk innerOk
    rw [if_neg (by simp), show fanOkBy keyCmp [] [] = false from rfl, Bool.and_false]
    rfl
  rw [e] at h
  exact AFn_weak h fun H => .cons (Wk.agg (.cons (Wk.data rfl) (.cons Wk.nil (.cons Wk.nil (.cons Wk.nil (.cons Wk.nil .nil)))))) .nil
attribute [local irreducible] OpOK AWops AW CondB Go2 AFn thenA inBlockA noGotoA orderOk wantedA
set_option maxRecDepth 100000 in
set_option maxHeartbeats 4000000 in
theorem a_awake9 : AFn Try.prog 23 [] (boolA true) := by
  refine AFn_intro Try.func23 rfl Try.ntmps23 rfl (by simp) [_] rfl fun E hE => ?_
  have hnt : (!true) = false := rfl
  have hnf : (!false) = true := rfl
  have hB : ∀ n ∈ ([0] : List Int), -9223372036854775808 ≤ n ∧ n ≤ 9223372036854775807 := by simp
  have hB8 : ∀ n ∈ ([0, 8] : List Int), -9223372036854775808 ≤ n ∧ n ≤ 9223372036854775807 := by simp
  have cl := a_lleaf [0, 8] hB8
  have c1 := a_inner30 0 [0] (.inr trivial) hB
  have c2 := a_inner300
  have hv1 := a_heaviest (innerN [] 3 []) _ (a_weightsN [] 3 []) (by have := wtsN_le [] 3 []; omega)
  have hv2 := a_heaviest (innerN [] 3 [0]) _ (a_weightsN [] 3 [0]) (by have := wtsN_le [] 3 [0]; omega)
  have e1 : hvOf (wtsN [] 3 []) = -1 := (hvN_none [] 3 []).2 rfl
  have e2 : 0 ≤ hvOf (wtsN [] 3 [0]) := by
    have h1 := hv_bd (wtsN [] 3 [0])
    have h2 : hvOf (wtsN [] 3 [0]) ≠ -1 := fun h => msgList_some 0 [] ((hvN_none [] 3 [0]).1 h)
    omega
  rw [e1] at hv1
  have cw := a_weightsN [] 3 []
  have ew : (wtsN [] 3 []).length = (innerN [] 3 []).ks.length := wtsN_len _ _ _
  have k1 := a_nodecheck (innerN [] 3 []) (innerN_sm _ _ _)
  rw [innerN_ok] at k1
  have k2 := a_nodefits (leafN [0, 8]) (leafN_sm _)
  rw [leafN_fits] at k2
  have k3 := a_nodesame (leafN [0, 8]) (leafN [0, 8]) (leafN_sm _)
  rw [decide_eq_true rfl] at k3
  have k4 := a_nodesame (leafN [0, 8]) (innerN [] 3 []) (leafN_sm _)
  rw [decide_eq_false (fun h => by have := congrArg Nd.leaf h; cases this)] at k4
  have k5 := a_nodebytes (leafN [0, 8]) (leafN_sm _) (fun _ => leafN_ebd _)
  have k6 := a_ref07bytes (leafN [0, 8]).es (leafN_ebd _) (leafN_sm _).es
  have k7 := a_nodeheavy (leafN [0, 8]) (leafN_sm _) (fun _ => leafN_ebd _)
  rw [show ndBytes (leafN [0, 8]) = eSum (leafN [0, 8]).es from rfl] at k5
  rw [show ndHeavy (leafN [0, 8]) = false from rfl] at k7
  have hl1 : (leafN [0, 8]).av = Nd.av ⟨true, (leafN [0, 8]).es, [], [], []⟩ := rfl
  have hi1 : (innerN [] 3 []).av = Nd.av ⟨false, [], (innerN [] 3 []).ks, (innerN [] 3 []).ps, (innerN [] 3 []).ms⟩ := rfl
  have hi2 : (innerN [] 3 [0]).av = Nd.av ⟨false, [], (innerN [] 3 [0]).ks, (innerN [] 3 [0]).ps, (innerN [] 3 [0]).ms⟩ := rfl
  rw [hl1] at cl k2 k3 k4 k5 k7
  rw [hi1] at c2 hv1 cw k1 k4
  rw [hi2] at c1 hv2
  generalize (leafN [0, 8]).es = E1 at *
  generalize (innerN [] 3 []).ks = K1 at *
  generalize (innerN [] 3 []).ps = P1 at *
  generalize (innerN [] 3 []).ms = M1 at *
  generalize (innerN [] 3 [0]).ks = K2 at *
  generalize (innerN [] 3 [0]).ps = P2 at *
  generalize (innerN [] 3 [0]).ms = M2 at *
  generalize wtsN [] 3 [] = W1 at *
  generalize hvOf (wtsN [] 3 [0]) = V2 at *
  have k0 := a_check0
  have d0 := acall Try.func15 (k0) (by decide +kernel) (by decide +kernel)
  have d1 := acall Try.func9 (cl) (by decide +kernel) (by decide +kernel)
  have d2 := acall Try.func10 (c1) (by decide +kernel) (by decide +kernel)
  have d3 := acall Try.func10 (c2) (by decide +kernel) (by decide +kernel)
  have d4 := acall Try.func17 (hv1) (by decide +kernel) (by decide +kernel)
  have d5 := acall Try.func17 (hv2) (by decide +kernel) (by decide +kernel)
  have d6 := acall Try.func15 (k1) (by decide +kernel) (by decide +kernel)
  have d7 := acall Try.func16 (k2) (by decide +kernel) (by decide +kernel)
  have d8 := acall Try.func21 (k3) (by decide +kernel) (by decide +kernel)
  have d9 := acall Try.func21 (k4) (by decide +kernel) (by decide +kernel)
  have d10 := acall Try.func13 (k5) (by decide +kernel) (by decide +kernel)
  have d11 := acall Try.func40 (k6) (by decide +kernel) (by decide +kernel)
  have d12 := acall Try.func11 (cw) (by decide +kernel) (by decide +kernel)
  have d13 := acall Try.func19 (k7) (by decide +kernel) (by decide +kernel)
  have t1 : (-1 : Int) = -1 := rfl
  have t2 : eSum E1 = eSum E1 := rfl
  have t3 : (W1.length : Int) = (K1.length : Int) := by omega
  refine wI ?_
  exact fin ⟨res_of rfl rfl rfl, trivial⟩
end Go.Proofs.Ytkpjkfjlpiidbaa

namespace Go.Proofs.Ytkpjkfjlpiidbaa
open Go Go.RowKit
set_option linter.unusedVariables false
set_option linter.unusedSimpArgs false
set_option maxRecDepth 100000

section
variable {H : Type} {enc : TypeId × Value → H} {P : Program} {w : World} {base : Nat} {spare : Nat → Bool} {held : Bool} {fuel : Nat} {t : TypeId} {cs : List Value} {x : DataW H × List MemPlace}
theorem in_bytes {m : Nat} {e : TypeId} (ht : P.underlying t = some (.array m e)) (he : P.underlying e = some (.int .u8)) (hc : P.cellsOf e = 1) (hct : P.cellsOf t = m) (h : DataW.trod enc P w base spare held fuel t cs = some x) : ∃ b : Vector (BitVec 8) m, cs = (bArr b).toList := by
  obtain ⟨xs, n, _, _, hl, hx, hi⟩ := DataW.trod_array ht h
  rw [hct] at hl
  have each : ∀ i (hi : i < cs.length), ∃ z : Int, cs[i] = .int .u8 z ∧ 0 ≤ z ∧ z ≤ 255 := fun i hil => by
    have h1 := hi i (by omega)
    rw [hc, Nat.mul_one, List.getElem?_eq_getElem (by omega)] at h1
    obtain ⟨z, h2, _, h3⟩ := DataW.trod_int he h1
    rw [List.drop_eq_getElem_cons hil] at h2
    simp only [List.take_succ_cons, List.take_zero, List.cons.injEq, and_true] at h2
    exact ⟨z, h2, bounds_u8 h3⟩
  refine ⟨Vector.ofFn fun i => BitVec.ofInt 8 (intOf (cs.getD i.1 undef)), ?_⟩
  apply List.ext_getElem
  · simp [bArr_size, hl]
  · intro i h1 h2
    obtain ⟨z, h3, h4, h5⟩ := each i h1
    have := bArr_get (Vector.ofFn fun i => BitVec.ofInt 8 (intOf (cs.getD i.1 undef)) : Vector (BitVec 8) m) i (by omega)
    have h6 : (bArr (Vector.ofFn fun i => BitVec.ofInt 8 (intOf (cs.getD i.1 undef)) : Vector (BitVec 8) m)).toList[i]? = some (.int .u8 z) := by
      rw [Array.getElem?_toList, this]
      simp only [Vector.getElem_ofFn, List.getD_eq_getElem?_getD, List.getElem?_eq_getElem h1, Option.getD_some, h3, intOf]
      rw [B8_ofInt _ h4 (by omega)]
    rw [List.getElem?_eq_getElem h2] at h6
    rw [h3]
    exact (Option.some.inj h6).symm
theorem in_i64 (ht : P.underlying t = some (.int .i64)) (h : DataW.trod enc P w base spare held fuel t cs = some x) : ∃ n : Int, cs = [.int .i64 n] ∧ -9223372036854775808 ≤ n ∧ n ≤ 9223372036854775807 := by
  obtain ⟨n, h1, _, h2⟩ := DataW.trod_int ht h
  exact ⟨n, h1, bounds_i64 h2⟩
theorem in_u64 (ht : P.underlying t = some (.int .u64)) (h : DataW.trod enc P w base spare held fuel t cs = some x) : ∃ n : BitVec 64, cs = [.int .u64 (D64 n)] := by
  obtain ⟨n, h1, _, h2⟩ := DataW.trod_int ht h
  have := bounds_u64 h2
  exact ⟨BitVec.ofInt 64 n, by rw [D64_ofInt _ (by omega) (by omega)]; exact h1⟩
theorem row_of_cells {w : World} {b off n : Nat} {c : Array Value} (h : ∀ k, k < n → w.cell? ⟨b, off + k, none⟩ = c[k]?) (hs : c.size = n) (hn : 0 < n) : row? w b off n = some c := by
  have h0 := h 0 hn
  rw [Array.getElem?_eq_getElem (by omega)] at h0
  unfold World.cell? at h0
  split at h0
  · rename_i cs t fr hb
    rw [row_block hb]
    have each : ∀ k, k < n → cs[off + k]? = c[k]? := fun k hk => by
      have h1 := h k hk
      unfold World.cell? at h1
      simp only [hb, Option.isSome_none, Bool.false_eq_true, if_false] at h1
      exact h1
    have hlast := each (n - 1) (by omega)
    rw [Array.getElem?_eq_getElem (show n - 1 < c.size by omega)] at hlast
    have hlt := (Array.getElem?_eq_some_iff.1 hlast).1
    unfold rowOf
    rw [if_pos (by omega)]
    congr 1
    apply Array.ext_getElem?
    intro k
    rw [Array.getElem?_extract]
    by_cases hk : k < n
    · rw [if_pos (by omega)]; exact each k hk
    · rw [if_neg (by omega), Array.getElem?_eq_none (by omega)]
  · cases h0
/-- whatever the elements: a slice of them -/
theorem in_sliceG {α : Type} [Inhabited α] {e : TypeId} {n : Nat} {arr : α → Array Value} (he : EncOk arr n) (Q : α → Prop) (ht : P.underlying t = some (.slice e)) (hc : P.cellsOf e = n) (each : ∀ {fuel : Nat} {cs : List Value} {x : DataW H × List MemPlace}, DataW.trod enc P w base spare held fuel e cs = some x → ∃ a : α, cs = (arr a).toList ∧ Q a)
    (h : DataW.trod enc P w base spare held fuel t cs = some x) : ∃ v xs, cs = [v] ∧ Sl arr n w v xs ∧ ∀ a ∈ xs, Q a := by
  rcases Go.Deep.open_slice ht h with ⟨h1, _⟩ | ⟨a, len, cap, m, nn, Da, Pl, rfl, hb, hl, hm, hmm, _, hx⟩
  · exact ⟨_, [], h1, Sl.nil _ _ _, fun a h => by cases h⟩
  · rw [hc] at hx
    have hlm : len ≤ m := by rw [hmm]; split <;> omega
    obtain ⟨f, hf⟩ := Go.Deep.choose_lt (α := α) (p := fun i y => w.cells? base (a.add (i * n)) n = some (arr y).toList ∧ Q y) (n := len) (fun i hi => by
      obtain ⟨cs', k1, k2⟩ := hx i (by omega)
      obtain ⟨y, rfl, hq⟩ := each k2
      exact ⟨y, k1, hq⟩)
    refine ⟨_, (List.range len).map f, rfl, ⟨some a, cap, by simp, by simpa using hl, hm, fun h0 => ?_⟩, fun y hy => ?_⟩
    · have hsz := fun y => he.size y
      have hpos := he.pos
      obtain ⟨b, off, spot⟩ := a
      have h0' : 0 < len := by simpa using h0
      have hc0 := (World.cells?_some (hf 0 h0').1).2.2 0 (by omega)
      rw [Array.getElem?_toList, Array.getElem?_eq_getElem (by rw [hsz]; omega)] at hc0
      have hspot : spot = none := by simpa [Addr.add] using World.cell?_spot hc0
      subst hspot
      have hadd : ∀ o k, (⟨b, o, none⟩ : Addr).add k = ⟨b, o + k, none⟩ := fun o k => by unfold Addr.add; split <;> simp_all
      have hb' : b < w.heap.size := by
        have := block_lt_of_cell hc0
        simpa [hadd] using this
      refine ⟨b, off, rfl, hb', fun i hi => ?_⟩
      have hi' : i < len := by simpa using hi
      have h1 := (World.cells?_some (hf i hi').1).2.2
      simp only [List.getElem_map, List.getElem_range]
      refine row_of_cells (fun k hk => ?_) (hsz _) hpos
      have := h1 k hk
      rw [hadd, hadd] at this
      rw [this, Array.getElem?_toList]
    · obtain ⟨i, hi, rfl⟩ := List.mem_map.1 hy
      exact (hf i (List.mem_range.1 hi)).2
theorem in_slice {α : Type} [Inhabited α] (D : DT α) (Q : α → Prop) (ht : P.underlying t = some (.slice D.t)) (hc : P.cellsOf D.t = D.n) (each : ∀ {fuel : Nat} {cs : List Value} {x : DataW H × List MemPlace}, DataW.trod enc P w base spare held fuel D.t cs = some x → ∃ a : α, cs = (D.arr a).toList ∧ Q a)
    (h : DataW.trod enc P w base spare held fuel t cs = some x) : ∃ v xs, cs = [v] ∧ Sl D.arr D.n w v xs ∧ ∀ a ∈ xs, Q a := in_sliceG D.enc Q ht hc each h
end
section
variable {H : Type} {enc : TypeId × Value → H} {w : World} {base : Nat} {spare : Nat → Bool} {held : Bool} {fuel : Nat} {cs : List Value} {x : DataW H × List MemPlace}
theorem in_Key (h : DataW.trod enc Try.prog w base spare held fuel 40 cs = some x) : ∃ k : Key, cs = k.arr.toList ∧ -9223372036854775808 ≤ k.n ∧ k.n ≤ 9223372036854775807 := by
  obtain ⟨y0, y1, n, _, hl, h0, h1⟩ := Go.ChangeShapes.trod_struct2 Try.underlying40 h
  obtain ⟨z, e0, hz⟩ := in_i64 Try.underlying3 h0
  obtain ⟨b, e1⟩ := in_bytes (m := 8) Try.underlying38 Try.underlying5 (by kernel_rfl) (by kernel_rfl) h1
  have hl' : cs.length = 9 := hl.trans (by kernel_rfl)
  refine ⟨⟨z, b⟩, ?_, hz⟩
  rw [show Try.prog.cellsOf 3 = 1 from by kernel_rfl, List.drop_zero] at e0
  rw [show Try.prog.cellsOf 38 = 8 from by kernel_rfl] at e1
  rw [List.take_of_length_le (by simp; omega)] at e1
  rw [← List.take_append_drop 1 cs, e0, e1, Key.arr_def, cat_def, cel_def]
  simp
theorem in_Vl (h : DataW.trod enc Try.prog w base spare held fuel 43 cs = some x) : ∃ k : Vl, cs = k.arr.toList ∧ -9223372036854775808 ≤ k.n ∧ k.n ≤ 9223372036854775807 := by
  obtain ⟨y0, y1, n, _, hl, h0, h1⟩ := Go.ChangeShapes.trod_struct2 Try.underlying43 h
  obtain ⟨z, e0, hz⟩ := in_i64 Try.underlying3 h0
  obtain ⟨b, e1⟩ := in_bytes (m := 16) Try.underlying41 Try.underlying5 (by kernel_rfl) (by kernel_rfl) h1
  have hl' : cs.length = 17 := hl.trans (by kernel_rfl)
  refine ⟨⟨z, b⟩, ?_, hz⟩
  rw [show Try.prog.cellsOf 3 = 1 from by kernel_rfl, List.drop_zero] at e0
  rw [show Try.prog.cellsOf 41 = 16 from by kernel_rfl] at e1
  rw [List.take_of_length_le (by simp; omega)] at e1
  rw [← List.take_append_drop 1 cs, e0, e1, Vl.arr_def, cat_def, cel_def]
  simp
theorem in_Ent (h : DataW.trod enc Try.prog w base spare held fuel 45 cs = some x) : ∃ k : Ent, cs = k.arr.toList ∧ (-9223372036854775808 ≤ k.key.n ∧ k.key.n ≤ 9223372036854775807) ∧ (-9223372036854775808 ≤ k.val.n ∧ k.val.n ≤ 9223372036854775807) := by
  obtain ⟨y0, y1, n, _, hl, h0, h1⟩ := Go.ChangeShapes.trod_struct2 Try.underlying45 h
  obtain ⟨k, e0, hk⟩ := in_Key h0
  obtain ⟨v, e1, hv⟩ := in_Vl h1
  have hl' : cs.length = 26 := hl.trans (by kernel_rfl)
  refine ⟨⟨k, v⟩, ?_, hk, hv⟩
  rw [show Try.prog.cellsOf 40 = 9 from by kernel_rfl, List.drop_zero] at e0
  rw [show Try.prog.cellsOf 43 = 17 from by kernel_rfl] at e1
  rw [List.take_of_length_le (by simp; omega)] at e1
  rw [← List.take_append_drop 9 cs, e0, e1, Ent.arr_def, cat_def]
  simp
theorem in_Msg (h : DataW.trod enc Try.prog w base spare held fuel 48 cs = some x) : ∃ k : Msg, cs = k.arr.toList ∧ (-9223372036854775808 ≤ k.kind ∧ k.kind ≤ 9223372036854775807) := by
  obtain ⟨ys, n, _, _, hl, hys, hf⟩ := DataW.trod_struct Try.underlying48 h
  have hys' : ys.length = 5 := hys
  match ys, hys' with
  | [y0, y1, y2, y3, y4], _ =>
    obtain ⟨k0, e0, hk⟩ := in_i64 Try.underlying3 (show DataW.trod enc Try.prog w base spare held n 3 ((cs.drop 0).take (Try.prog.cellsOf 3)) = some y0 from hf 0 _ rfl)
    obtain ⟨k1, e1⟩ := in_u64 Try.underlying46 (show DataW.trod enc Try.prog w base spare held n 46 ((cs.drop 1).take (Try.prog.cellsOf 46)) = some y1 from hf 1 _ rfl)
    obtain ⟨k2, e2, _⟩ := in_Key (show DataW.trod enc Try.prog w base spare held n 40 ((cs.drop 2).take (Try.prog.cellsOf 40)) = some y2 from hf 2 _ rfl)
    obtain ⟨k3, e3, _⟩ := in_Vl (show DataW.trod enc Try.prog w base spare held n 43 ((cs.drop 11).take (Try.prog.cellsOf 43)) = some y3 from hf 3 _ rfl)
    obtain ⟨k4, e4⟩ := in_u64 Try.underlying46 (show DataW.trod enc Try.prog w base spare held n 46 ((cs.drop 28).take (Try.prog.cellsOf 46)) = some y4 from hf 4 _ rfl)
    have hl' : cs.length = 29 := hl.trans (by kernel_rfl)
    refine ⟨⟨k0, k1, k2, k3, k4⟩, ?_, hk⟩

    rw [show Try.prog.cellsOf 3 = 1 from by kernel_rfl, List.drop_zero] at e0
    rw [show Try.prog.cellsOf 46 = 1 from by kernel_rfl] at e1 e4
    rw [show Try.prog.cellsOf 40 = 9 from by kernel_rfl] at e2
    rw [show Try.prog.cellsOf 43 = 17 from by kernel_rfl] at e3
    have d1 : cs = cs.take 1 ++ ((cs.drop 1).take 1 ++ ((cs.drop 2).take 9 ++ ((cs.drop 11).take 17 ++ (cs.drop 28).take 1))) := by
      have sp : ∀ i n, cs.drop i = (cs.drop i).take n ++ cs.drop (i + n) := fun i n => by
        rw [← List.drop_drop]; exact (List.take_append_drop _ _).symm
      have s4 : (cs.drop 28).take 1 = cs.drop 28 := List.take_of_length_le (by simp; omega)
      rw [s4, ← sp 11 17, ← sp 2 9, ← sp 1 1, List.take_append_drop]
    rw [d1, e0, e1, e2, e3, e4, Msg.arr_def]
    simp only [cat_def, cel_def]
    simp
end
instance : Inhabited Key := ⟨Key.zero⟩
instance : Inhabited Vl := ⟨Vl.zero⟩
instance : Inhabited Ent := ⟨Ent.zero⟩
instance : Inhabited Msg := ⟨Msg.zero⟩
/-- a slice of structs that is handed in, as the law's frame has it -/
theorem in_structs {α : Type} [Inhabited α] (D : DT α) (Q : α → Prop) {H : Type} {enc : TypeId × Value → H} {w : World} {base : Nat} {spare : Nat → Bool} {held : Bool} {t : TypeId} {v : Value} {d : DataW H} {ps : List MemPlace} (ht : Try.prog.underlying t = some (.slice D.t)) (hc : Try.prog.cellsOf D.t = D.n)
    (each : ∀ {fuel : Nat} {cs : List Value} {x : DataW H × List MemPlace}, DataW.trod enc Try.prog w base spare held fuel D.t cs = some x → ∃ a : α, cs = (D.arr a).toList ∧ Q a) (h : DataW.Trod enc Try.prog w base spare held t v d ps) (hv : ∃ A len cap, v = .slice A len cap) :
    ∃ xs, Sl D.arr D.n w v xs ∧ ∀ a ∈ xs, Q a := by
  obtain ⟨fuel, hf⟩ := h
  obtain ⟨u, xs, h1, h2, h3⟩ := in_slice D Q ht hc each hf
  obtain ⟨A, len, cap, rfl⟩ := hv
  simp only [Value.cells, List.cons.injEq, and_true] at h1
  subst h1
  exact ⟨xs, h2, h3⟩
end Go.Proofs.Ytkpjkfjlpiidbaa

namespace Go.Proofs.Ytkpjkfjlpiidbaa
open Go Go.RowKit
set_option linter.unusedVariables false
set_option linter.unusedSimpArgs false
set_option maxRecDepth 100000

/-- a node's value: its slices' values, what these read as -/
structure NodeV (w : World) (v : Value) (n : Nd) : Prop where
  is : ∃ v1 v2 v3 v4, v = .agg #[.bool n.leaf, v1, v2, v3, v4] ∧ Sl Ent.arr 26 w v1 n.es ∧ Sl ie 1 w v2 n.ks ∧ Sl Key.arr 9 w v3 n.ps ∧ Sl Msg.arr 29 w v4 n.ms
section
variable {H : Type} {enc : TypeId × Value → H} {w : World} {base : Nat} {spare : Nat → Bool} {held : Bool} {fuel : Nat} {cs : List Value} {x : DataW H × List MemPlace}
theorem in_int (h : DataW.trod enc Try.prog w base spare held fuel 3 cs = some x) : ∃ n : Int, cs = (ie n).toList ∧ True := by
  obtain ⟨n, h1, _⟩ := in_i64 Try.underlying3 h
  exact ⟨n, h1, trivial⟩
theorem in_Node (h : DataW.trod enc Try.prog w base spare held fuel 27 cs = some x) : ∃ n v1 v2 v3 v4, cs = [.bool (Nd.leaf n), v1, v2, v3, v4] ∧ Sl Ent.arr 26 w v1 n.es ∧ Sl ie 1 w v2 n.ks ∧ Sl Key.arr 9 w v3 n.ps ∧ Sl Msg.arr 29 w v4 n.ms := by
  obtain ⟨ys, n, _, _, hl, hys, hf⟩ := DataW.trod_struct Try.underlying27 h
  have hys' : ys.length = 5 := hys
  match ys, hys' with
  | [y0, y1, y2, y3, y4], _ =>
    obtain ⟨lf, e0, _⟩ := DataW.trod_bool Try.underlying4 (show DataW.trod enc Try.prog w base spare held n 4 ((cs.drop 0).take (Try.prog.cellsOf 4)) = some y0 from hf 0 _ rfl)
    obtain ⟨v1, es, e1, s1, _⟩ := in_slice dEnt (fun _ => True) Try.underlying23 (by kernel_rfl) (fun h => by obtain ⟨k, hk, _⟩ := in_Ent h; exact ⟨k, hk, trivial⟩) (show DataW.trod enc Try.prog w base spare held n 23 ((cs.drop 1).take (Try.prog.cellsOf 23)) = some y1 from hf 1 _ rfl)
    obtain ⟨v2, ks, e2, s2, _⟩ := in_sliceG ie_ok (fun _ => True) Try.underlying22 (by kernel_rfl) (fun h => in_int h) (show DataW.trod enc Try.prog w base spare held n 22 ((cs.drop 2).take (Try.prog.cellsOf 22)) = some y2 from hf 2 _ rfl)
    obtain ⟨v3, ps, e3, s3, _⟩ := in_slice dKey (fun _ => True) Try.underlying24 (by kernel_rfl) (fun h => by obtain ⟨k, hk, _⟩ := in_Key h; exact ⟨k, hk, trivial⟩) (show DataW.trod enc Try.prog w base spare held n 24 ((cs.drop 3).take (Try.prog.cellsOf 24)) = some y3 from hf 3 _ rfl)
    obtain ⟨v4, ms, e4, s4, _⟩ := in_slice dMsg (fun _ => True) Try.underlying25 (by kernel_rfl) (fun h => by obtain ⟨k, hk, _⟩ := in_Msg h; exact ⟨k, hk, trivial⟩) (show DataW.trod enc Try.prog w base spare held n 25 ((cs.drop 4).take (Try.prog.cellsOf 25)) = some y4 from hf 4 _ rfl)
    have hl' : cs.length = 5 := hl.trans (by kernel_rfl)
    refine ⟨⟨lf, es, ks, ps, ms⟩, v1, v2, v3, v4, ?_, s1, s2, s3, s4⟩
    rw [show Try.prog.cellsOf 4 = 1 from by kernel_rfl, List.drop_zero] at e0
    rw [show Try.prog.cellsOf 23 = 1 from by kernel_rfl] at e1
    rw [show Try.prog.cellsOf 22 = 1 from by kernel_rfl] at e2
    rw [show Try.prog.cellsOf 24 = 1 from by kernel_rfl] at e3
    rw [show Try.prog.cellsOf 25 = 1 from by kernel_rfl] at e4
    match cs, hl' with
    | [c0, c1, c2, c3, c4], _ =>
      simp at e0 e1 e2 e3 e4
      subst e0 e1 e2 e3 e4
      rfl
end
/-- as the law's frame has it -/
theorem in_node {H : Type} {enc : TypeId × Value → H} {w : World} {base : Nat} {spare : Nat → Bool} {held : Bool} {v : Value} {d : DataW H} {ps : List MemPlace} (h : DataW.Trod enc Try.prog w base spare held 27 v d ps) (hv : ∃ cs, v = .agg cs ∧ cs.size = Try.prog.cellsOf 27) : ∃ n, NodeV w v n := by
  obtain ⟨fuel, hf⟩ := h
  obtain ⟨n, v1, v2, v3, v4, h1, h2⟩ := in_Node hf
  obtain ⟨cs, rfl, hs⟩ := hv
  have h3 : cs.toList = [.bool n.leaf, v1, v2, v3, v4] := h1
  exact ⟨n, v1, v2, v3, v4, by rw [← h3], h2⟩
theorem node_in {w : World} {v : Value} {n : Nd} (h : NodeV w v n) : Rdv (fun _ _ => False) w B0 H0 n.av v := by
  obtain ⟨v1, v2, v3, v4, rfl, s1, s2, s3, s4⟩ := h.is
  have r1 := Rdv_one (by simp) (DT.sl_in dEnt s1) rfl
  have r2 := Rdv_one (by simp) (ints_in s2) rfl
  have r3 := Rdv_one (by simp) (DT.sl_in dKey s3) rfl
  have r4 := Rdv_one (by simp) (DT.sl_in dMsg s4) rfl
  refine (Rdv_not (by simp [Nd.av, nodeA])).2 ⟨[.bool n.leaf, v1, v2, v3, v4], ?_, rfl⟩
  show Rd _ _ (.agg 5 [boolA n.leaf, entsA n.es, intsA n.ks, keysA n.ps, msgsA n.ms]) _ _ _
  simp only [Rd, Rds]
  exact ⟨rfl, [_], _, rfl, ⟨rfl, rfl⟩, [_], _, rfl, r1, [_], _, rfl, r2, [_], _, rfl, r3, [_], _, rfl, r4, rfl⟩
end Go.Proofs.Ytkpjkfjlpiidbaa

namespace Go.Proofs.Ytkpjkfjlpiidbaa
open Go Go.RowKit
set_option linter.unusedVariables false
set_option linter.unusedSimpArgs false
set_option maxRecDepth 100000

attribute [local irreducible] OpOK AWops AW CondB Go2 AFn thenA inBlockA noGotoA orderOk wantedA
set_option maxRecDepth 100000 in
set_option maxHeartbeats 4000000 in
theorem a_ref09fits (n : Nd) (h : n.Sm) : AFn Try.prog 26 [n.av] (boolA (nodeFits n)) := by
  have k1 := a_ref09check n h
  have k2 := fun hb => a_ref09bytes n h hb
  have hq := @nodeOk_ebd n
  obtain ⟨lf, es, ks, ps, ms⟩ := n
  dsimp only [Nd.av] at k1 k2 ⊢
  refine AFn_intro Try.func26 rfl Try.ntmps26 rfl (by simp) [_] rfl fun E hE => ?_
  have hnt : (!true) = false := rfl
  have hnf : (!false) = true := rfl
  cases q : nodeOk keyCmp ⟨lf, es, ks, ps, ms⟩ with
  | false =>
    rw [q] at k1
    have d1 := acall Try.func25 (k1) (by decide +kernel) (by decide +kernel)
    rw [show nodeFits ⟨lf, es, ks, ps, ms⟩ = false from by unfold nodeFits; rw [q]; rfl]
    refine wI ?_
    exact fin ⟨res_of rfl rfl rfl, trivial⟩
  | true =>
    have k3 := k2 (hq q)
    clear k2 hq
    rw [q] at k1
    have d1 := acall Try.func25 (k1) (by decide +kernel) (by decide +kernel)
    cases lf with
    | true =>
      rw [show ndBytes ⟨true, es, ks, ps, ms⟩ = eSum es from rfl] at k3
      rw [show nodeFits ⟨true, es, ks, ps, ms⟩ = decide (eSum es ≤ 248) from by unfold nodeFits; rw [q]; rfl]
      generalize eSum es = B at k3 ⊢
      have d2 := acall Try.func14 (k3) (by decide +kernel) (by decide +kernel)
      by_cases c : B ≤ 248
      · rw [decide_eq_true c]
        refine wI ?_
        exact fin ⟨res_of rfl rfl rfl, trivial⟩
      · rw [decide_eq_false c]
        refine wI ?_
        exact fin ⟨res_of rfl rfl rfl, trivial⟩
    | false =>
      rw [show ndBytes ⟨false, es, ks, ps, ms⟩ = bSum ms from rfl] at k3
      rw [show nodeFits ⟨false, es, ks, ps, ms⟩ = decide (bSum ms ≤ 205) from by unfold nodeFits; rw [q]; rfl]
      generalize bSum ms = B at k3 ⊢
      have d2 := acall Try.func14 (k3) (by decide +kernel) (by decide +kernel)
      refine wI ?_
      exact fin ⟨res_of rfl rfl rfl, trivial⟩
end Go.Proofs.Ytkpjkfjlpiidbaa

namespace Go.Proofs.Ytkpjkfjlpiidbaa
open Go Go.RowKit
set_option linter.unusedVariables false
set_option linter.unusedSimpArgs false
set_option maxRecDepth 100000

def fewB (n : Nd) : Bool := decide (n.es.length ≤ 80) && decide (n.ks.length ≤ 20) && decide (n.ps.length ≤ 20) && decide (n.ms.length ≤ 60)
theorem few_sm {n : Nd} (h : fewB n = true) : n.Sm := by
  unfold fewB at h
  simp only [Bool.and_eq_true, decide_eq_true_eq] at h
  exact ⟨by omega, by omega, by omega, by omega⟩
theorem take_bd : ∀ (w : List Int), (∀ x ∈ w, 0 ≤ x) → ∀ j, 0 ≤ (w.take j).sum ∧ (w.take j).sum ≤ w.sum
  | [], _, j => by simp
  | x :: w, h, 0 => by
    have := (sum_nn _ h).1
    simp only [List.take_zero, List.sum_nil]
    exact ⟨Int.le_refl _, this⟩
  | x :: w, h, j + 1 => by
    have h1 := take_bd w (fun y hy => h y (List.mem_cons_of_mem _ hy)) j
    have h2 := h x List.mem_cons_self
    rw [List.take_succ_cons, List.sum_cons, List.sum_cons]
    omega
theorem take_step (w : List Int) (j : Nat) (h : j < w.length) : (w.take (j + 1)).sum = (w.take j).sum + w[j] := by
  rw [List.take_succ_eq_append_getElem h, List.sum_append]
  simp
attribute [local irreducible] OpOK AWops AW CondB Go2 AFn thenA inBlockA noGotoA orderOk wantedA
set_option maxRecDepth 100000 in
set_option maxHeartbeats 4000000 in
theorem a_few (n : Nd) : AFn Try.prog 24 [n.av] (boolA (fewB n)) := by
  obtain ⟨lf, es, ks, ps, ms⟩ := n
  dsimp only [Nd.av]
  refine AFn_intro Try.func24 rfl Try.ntmps24 rfl (by simp) [_] rfl fun E hE => ?_
  by_cases c1 : es.length ≤ 80
  · by_cases c2 : ks.length ≤ 20
    · by_cases c3 : ps.length ≤ 20
      · by_cases c4 : ms.length ≤ 60
        · rw [show fewB ⟨lf, es, ks, ps, ms⟩ = true from by unfold fewB; dsimp only; rw [decide_eq_true c1, decide_eq_true c2, decide_eq_true c3, decide_eq_true c4]; rfl]
          refine wI ?_
          exact fin ⟨res_yes rfl (by omega), trivial⟩
        · rw [show fewB ⟨lf, es, ks, ps, ms⟩ = false from by unfold fewB; dsimp only; rw [decide_eq_true c1, decide_eq_true c2, decide_eq_true c3, decide_eq_false c4]; rfl]
          refine wI ?_
          exact fin ⟨res_no rfl (by omega), trivial⟩
      · rw [show fewB ⟨lf, es, ks, ps, ms⟩ = false from by unfold fewB; dsimp only; rw [decide_eq_true c1, decide_eq_true c2, decide_eq_false c3]; rfl]
        refine wI ?_
        exact fin ⟨res_of rfl rfl rfl, trivial⟩
    · rw [show fewB ⟨lf, es, ks, ps, ms⟩ = false from by unfold fewB; dsimp only; rw [decide_eq_true c1, decide_eq_false c2]; rfl]
      refine wI ?_
      exact fin ⟨res_of rfl rfl rfl, trivial⟩
  · rw [show fewB ⟨lf, es, ks, ps, ms⟩ = false from by unfold fewB; dsimp only; rw [decide_eq_false c1]; rfl]
    refine wI ?_
    exact fin ⟨res_of rfl rfl rfl, trivial⟩
set_option maxRecDepth 100000 in
set_option maxHeartbeats 4000000 in
theorem a_nodeRaw (a b : Nd) : AFn Try.prog 4 [a.av, b.av] (boolA true) := by
  refine AFn_intro Try.func4 rfl Try.ntmps4 rfl (by simp) [_] rfl fun E hE => ?_
  have hnt : (!true) = false := rfl
  have hnf : (!false) = true := rfl
  have d0 := acall Try.func23 (a_awake9) (by decide +kernel) (by decide +kernel)
  have f1 := a_few a
  have f2 := a_few b
  cases qa : fewB a with
  | false =>
    rw [qa] at f1
    have d1 := acall Try.func24 (f1) (by decide +kernel) (by decide +kernel)
    refine wI ?_
    exact fin ⟨res_of rfl rfl rfl, trivial⟩
  | true =>
    rw [qa] at f1
    have d1 := acall Try.func24 (f1) (by decide +kernel) (by decide +kernel)
    cases qb : fewB b with
    | false =>
      rw [qb] at f2
      have d2 := acall Try.func24 (f2) (by decide +kernel) (by decide +kernel)
      refine wI ?_
      exact fin ⟨res_of rfl rfl rfl, trivial⟩
    | true =>
      rw [qb] at f2
      have d2 := acall Try.func24 (f2) (by decide +kernel) (by decide +kernel)
      have sa := few_sm qa
      have k1 := a_nodecheck a sa
      have k2 := a_ref09check a sa
      have k3 := a_nodefits a sa
      have k4 := a_ref09fits a sa
      have k5 := a_nodesame a b sa
      have k6 := a_refsame a b sa
      have k7 := a_nodesame a a sa
      rw [decide_eq_true rfl] at k7
      generalize nodeOk keyCmp a = o at k1 k2
      generalize nodeFits a = f at k3 k4
      generalize decide (a = b) = s at k5 k6
      have d3 := acall Try.func15 (k1) (by decide +kernel) (by decide +kernel)
      have d4 := acall Try.func25 (k2) (by decide +kernel) (by decide +kernel)
      have d5 := acall Try.func16 (k3) (by decide +kernel) (by decide +kernel)
      have d6 := acall Try.func26 (k4) (by decide +kernel) (by decide +kernel)
      have d7 := acall Try.func21 (k5) (by decide +kernel) (by decide +kernel)
      have d8 := acall Try.func22 (k6) (by decide +kernel) (by decide +kernel)
      have d9 := acall Try.func21 (k7) (by decide +kernel) (by decide +kernel)
      refine wI ?_
      exact fin ⟨res_of rfl rfl rfl, trivial⟩
set_option maxRecDepth 100000 in
set_option maxHeartbeats 4000000 in
theorem a_nodeHeavy (p : List Int) (v : Int) (l : List Int) (hl : p.length ≤ 17592186044400) (hb : ∀ n ∈ p, -9223372036854775808 ≤ n ∧ n ≤ 9223372036854775807) (hv : -9223372036854775808 ≤ v ∧ v ≤ 9223372036854775807) (hlb : ∀ n ∈ l, -9223372036854775808 ≤ n ∧ n ≤ 9223372036854775807) : AFn Try.prog 6 [intsA p, intA v, intsA l] (boolA true) := by
  refine AFn_intro Try.func6 rfl Try.ntmps6 rfl (by simp) [_] rfl fun E hE => ?_
  have hnt : (!true) = false := rfl
  have hnf : (!false) = true := rfl
  have d0 := acall Try.func23 (a_awake9) (by decide +kernel) (by decide +kernel)
  have c1 := a_inner p v l hl hb hv hlb
  have c2 := a_nodeheavy _ (innerN_sm p v l) (fun h => by cases h)
  have c3 := a_nodebytes _ (innerN_sm p v l) (fun h => by cases h)
  have c4 := a_ref06bytes (innerN p v l).ms (innerN_sm p v l).ms
  rw [show ndHeavy (innerN p v l) = decide (2 * bSum (innerN p v l).ms ≥ 205) from rfl] at c2
  rw [show ndBytes (innerN p v l) = bSum (innerN p v l).ms from rfl] at c3
  have h1 := innerN_sum p v l
  have h2 := (bSum_le (innerN p v l).ms).1
  have c5 := a_lleaf l hlb
  have c6 := a_nodeheavy _ (leafN_sm l) (fun _ => leafN_ebd l)
  rw [show ndHeavy (leafN l) = false from rfl] at c6
  generalize innerN p v l = n at *
  generalize leafN l = m at *
  generalize bSum n.ms = B at *
  have d1 := acall Try.func10 (c1) (by decide +kernel) (by decide +kernel)
  have d2 := acall Try.func19 (c2) (by decide +kernel) (by decide +kernel)
  have d3 := acall Try.func13 (c3) (by decide +kernel) (by decide +kernel)
  have d4 := acall Try.func27 (c4) (by decide +kernel) (by decide +kernel)
  have d5 := acall Try.func9 (c5) (by decide +kernel) (by decide +kernel)
  have d6 := acall Try.func19 (c6) (by decide +kernel) (by decide +kernel)
  refine wI ?_
  exact fin ⟨res_of rfl rfl rfl, trivial⟩
set_option maxRecDepth 100000 in
set_option maxHeartbeats 4000000 in
theorem a_nodeWeights (p : List Int) (v : Int) (l : List Int) (hl : p.length ≤ 17592186044400) (hb : ∀ n ∈ p, -9223372036854775808 ≤ n ∧ n ≤ 9223372036854775807) (hv : -9223372036854775808 ≤ v ∧ v ≤ 9223372036854775807) (hlb : ∀ n ∈ l, -9223372036854775808 ≤ n ∧ n ≤ 9223372036854775807) : AFn Try.prog 5 [intsA p, intA v, intsA l] (boolA true) := by
  refine AFn_intro Try.func5 rfl Try.ntmps5 rfl (by simp) [_] rfl fun E hE => ?_
  have hnt : (!true) = false := rfl
  have hnf : (!false) = true := rfl
  have d0 := acall Try.func23 (a_awake9) (by decide +kernel) (by decide +kernel)
  have c1 := a_inner p v l hl hb hv hlb
  have c2 := a_weightsN p v l
  have c3 := a_heaviest _ _ c2 (by have := wtsN_le p v l; omega)
  have c4 := a_nodebytes _ (innerN_sm p v l) (fun h => by cases h)
  rw [show ndBytes (innerN p v l) = bSum (innerN p v l).ms from rfl] at c4
  have hwl := wtsN_len p v l
  have hw4 := wtsN_le p v l
  have hsum : (wtsN p v l).sum = bSum (innerN p v l).ms := wts_all _ (innerN_rise p v l) (innerN_kids p v l)
  have hnn : ∀ x ∈ wtsN p v l, 0 ≤ x := wts_nn _ _
  have h205 := innerN_sum p v l
  have hnone := hvN_none p v l
  have his : hvOf (wtsN p v l) = -1 ∨ ∃ a, ∃ h : a < (wtsN p v l).length, hvOf (wtsN p v l) = (a : Int) ∧ (∀ i (h : i < (wtsN p v l).length), (wtsN p v l)[i] ≤ (wtsN p v l)[a]) ∧ ∀ i (h : i < (wtsN p v l).length), i < a → (wtsN p v l)[i] < (wtsN p v l)[a] := by
    rcases hvAt_is (wtsN p v l) _ (Nat.le_refl _) with ⟨e1, _, _⟩ | ⟨a, ha, _, e1, _, _, e4, e5⟩
    · exact .inl e1
    · exact .inr ⟨a, ha, e1, fun i h => e4 i h h, e5⟩
  generalize innerN p v l = n at *
  generalize wtsN p v l = W at *
  have hbd := take_bd W hnn
  rw [hsum] at hbd
  have d1 := acall Try.func10 (c1) (by decide +kernel) (by decide +kernel)
  have d2 := acall Try.func11 (c2) (by decide +kernel) (by decide +kernel)
  rcases his with e1 | ⟨a, ha, e1, e4, e5⟩
  · rw [e1] at c3
    have d3 := acall Try.func17 (c3) (by decide +kernel) (by decide +kernel)
    have d4 := acall Try.func13 (c4) (by decide +kernel) (by decide +kernel)
    refine wI ?_
    refine AW_loopI (fun j : Nat => ⟨[(7, .ptr 7 0 []), (8, intsA W), (9, intA (-1)), (10, intA (W.take j).sum), (11, intA j)], [(7, .var n.av)]⟩) (fun j => j ≤ W.length) (fun j => W.length - j) 0 (Nat.zero_le _) (by (refine Go2.sub ⟨?_, ?_⟩ <;> repeat' (first | exact True.intro | rfl | apply And.intro))) (fun j hj => ?_)
    by_cases c : j < W.length
    · have hs := take_step W j c
      have h1 := hbd j
      have h2 := hbd (j + 1)
      refine wI ?_
      refine ⟨j + 1, c, by omega, ?_⟩
      rw [hs]
      (refine Go2.sub ⟨?_, ?_⟩ <;> repeat' (first | exact True.intro | rfl | apply And.intro))
    · obtain rfl : j = W.length := by omega
      have t1 : (W.take W.length).sum = bSum n.ms := by rw [List.take_length]; exact hsum
      have t2 : decide ((-1 : Int) = -1) = decide ((n.ms.length : Int) = 0) := by
        have := hnone.1 e1
        rw [this]; rfl
      refine wI ?_
      exact fin ⟨res_of rfl rfl rfl, trivial⟩
  · rw [e1] at c3
    have d3 := acall Try.func17 (c3) (by decide +kernel) (by decide +kernel)
    have d4 := acall Try.func13 (c4) (by decide +kernel) (by decide +kernel)
    have g1 : ¬ ((a : Int) < -1) := by omega
    have g2 : ¬ ((a : Int) ≥ (W.length : Int)) := by omega
    refine wI ?_
    refine AW_loopI (fun j : Nat => ⟨[(7, .ptr 7 0 []), (8, intsA W), (9, intA (a : Int)), (10, intA (W.take j).sum), (11, intA j)], [(7, .var n.av)]⟩) (fun j => j ≤ W.length) (fun j => W.length - j) 0 (Nat.zero_le _) (by (refine Go2.sub ⟨?_, ?_⟩ <;> repeat' (first | exact True.intro | rfl | apply And.intro))) (fun j hj => ?_)
    by_cases c : j < W.length
    · have hs := take_step W j c
      have h1 := hbd j
      have h2 := hbd (j + 1)
      have h3 := e4 j c
      by_cases ca : j < a
      · have h4 := e5 j c ca
        refine wI ?_
        refine ⟨j + 1, c, by omega, ?_⟩
        rw [hs]
        (refine Go2.sub ⟨?_, ?_⟩ <;> repeat' (first | exact True.intro | rfl | apply And.intro))
      · refine wI ?_
        refine ⟨j + 1, c, by omega, ?_⟩
        rw [hs]
        (refine Go2.sub ⟨?_, ?_⟩ <;> repeat' (first | exact True.intro | rfl | apply And.intro))
    · obtain rfl : j = W.length := by omega
      have t1 : (W.take W.length).sum = bSum n.ms := by rw [List.take_length]; exact hsum
      have t2 : decide ((a : Int) = -1) = decide ((n.ms.length : Int) = 0) := by
        have h1 : ¬ n.ms = [] := fun h => by have := hnone.2 h; omega
        rw [decide_eq_false (by omega), decide_eq_false (fun h => h1 (List.eq_nil_of_length_eq_zero (by omega)))]
      refine wI ?_
      exact fin ⟨res_of rfl rfl rfl, trivial⟩
theorem nodeRaw_walk (v0 : Value) (x0 : Nd) (v1 : Value) (x1 : Nd) (w : World) (s0 : NodeV w v0 x0) (s1 : NodeV w v1 x1) :
    Calls Try.prog 4 #[v0, v1] w (Is w (.bool true)) :=
  law_of (a_nodeRaw x0 x1) (rdp_cons rfl (node_in s0) (rdp_cons rfl (node_in s1) rdp_nil'))
theorem nodeWeights_walk (v0 : Value) (l0 : List (Int)) (n1 : Int) (v2 : Value) (l2 : List (Int)) (w : World) (s0 : Sl ie 1 w v0 l0) (g0 : ∀ n ∈ l0, -9223372036854775808 ≤ n ∧ n ≤ 9223372036854775807) (z0 : l0.length ≤ 17592186043904) (b1 : -9223372036854775808 ≤ n1 ∧ n1 ≤ 9223372036854775807) (s2 : Sl ie 1 w v2 l2) (g2 : ∀ n ∈ l2, -9223372036854775808 ≤ n ∧ n ≤ 9223372036854775807) (z2 : l2.length ≤ 17592186043904) :
    Calls Try.prog 5 #[v0, .int .i64 n1, v2] w (Is w (.bool true)) :=
  law_of (a_nodeWeights l0 n1 l2 (by omega) g0 b1 g2) (rdp_cons rfl (ints_in s0) (rdp_cons rfl int_in (rdp_cons rfl (ints_in s2) rdp_nil')))
theorem nodeHeavy_walk (v0 : Value) (l0 : List (Int)) (n1 : Int) (v2 : Value) (l2 : List (Int)) (w : World) (s0 : Sl ie 1 w v0 l0) (g0 : ∀ n ∈ l0, -9223372036854775808 ≤ n ∧ n ≤ 9223372036854775807) (z0 : l0.length ≤ 17592186043904) (b1 : -9223372036854775808 ≤ n1 ∧ n1 ≤ 9223372036854775807) (s2 : Sl ie 1 w v2 l2) (g2 : ∀ n ∈ l2, -9223372036854775808 ≤ n ∧ n ≤ 9223372036854775807) (z2 : l2.length ≤ 17592186043904) :
    Calls Try.prog 6 #[v0, .int .i64 n1, v2] w (Is w (.bool true)) :=
  law_of (a_nodeHeavy l0 n1 l2 (by omega) g0 b1 g2) (rdp_cons rfl (ints_in s0) (rdp_cons rfl int_in (rdp_cons rfl (ints_in s2) rdp_nil')))
end Go.Proofs.Ytkpjkfjlpiidbaa

namespace Go.Proofs.Ytkpjkfjlpiidbaa
open Go Go.RowKit
set_option linter.unusedVariables false
set_option linter.unusedSimpArgs false
set_option maxRecDepth 100000

/-- all that the layer tells of a node, by both texts -/
structure NodeSay (n : Nd) (W : List Int) (B h : Int) (hv : Bool) : Prop where
  w1 : AFn Try.prog 11 [n.av] (intsA W)
  w2 : AFn Try.prog 12 [n.av] (intsA W)
  b1 : AFn Try.prog 13 [n.av] (intA B)
  b2 : AFn Try.prog 14 [n.av] (intA B)
  ch : AFn Try.prog 15 [n.av] (boolA true)
  fi : AFn Try.prog 16 [n.av] (boolA true)
  h1 : AFn Try.prog 17 [n.av] (intA h)
  h2 : AFn Try.prog 18 [n.av] (intA h)
  v1 : AFn Try.prog 19 [n.av] (boolA hv)
  v2 : AFn Try.prog 20 [n.av] (boolA hv)
  len : W.length ≤ 4
theorem leafN_say (l : List Int) : NodeSay (leafN l) [] (ndBytes (leafN l)) (hvOf []) (ndHeavy (leafN l)) where
  w1 := a_weights_leaf _ _ _ _
  w2 := a_refweights_leaf _ _ _ _
  b1 := a_nodebytes _ (leafN_sm l) (fun _ => leafN_ebd l)
  b2 := a_ref09bytes _ (leafN_sm l) (fun _ => leafN_ebd l)
  ch := by have h := a_nodecheck _ (leafN_sm l); rwa [leafN_ok] at h
  fi := by have h := a_nodefits _ (leafN_sm l); rwa [leafN_fits] at h
  h1 := a_heaviest _ _ (a_weights_leaf _ _ _ _) (by simp)
  h2 := a_refheaviest _ _ (a_refweights_leaf _ _ _ _) (by simp)
  v1 := a_nodeheavy _ (leafN_sm l) (fun _ => leafN_ebd l)
  v2 := a_refheavy _ (leafN_sm l) (fun _ => leafN_ebd l)
  len := by simp
theorem innerN_say (p : List Int) (v : Int) (l : List Int) : NodeSay (innerN p v l) (wtsN p v l) (ndBytes (innerN p v l)) (hvOf (wtsN p v l)) (ndHeavy (innerN p v l)) where
  w1 := a_weightsN p v l
  w2 := a_refweightsN p v l
  b1 := a_nodebytes _ (innerN_sm p v l) (fun h => by cases h)
  b2 := a_ref09bytes _ (innerN_sm p v l) (fun h => by cases h)
  ch := by have h := a_nodecheck _ (innerN_sm p v l); rwa [innerN_ok] at h
  fi := by have h := a_nodefits _ (innerN_sm p v l); rwa [innerN_fits] at h
  h1 := a_heaviest _ _ (a_weightsN p v l) (by have := wtsN_le p v l; omega)
  h2 := a_refheaviest _ _ (a_refweightsN p v l) (by have := wtsN_le p v l; omega)
  v1 := a_nodeheavy _ (innerN_sm p v l) (fun h => by cases h)
  v2 := a_refheavy _ (innerN_sm p v l) (fun h => by cases h)
  len := wtsN_le p v l
attribute [local irreducible] OpOK AWops AW CondB Go2 AFn thenA inBlockA noGotoA orderOk wantedA
set_option maxRecDepth 100000 in
set_option maxHeartbeats 8000000 in
theorem a_nodeAll (e p : List Int) (v : Int) (l : List Int) (he : (∀ n ∈ e, -9223372036854775808 ≤ n ∧ n ≤ 9223372036854775807)) (hl : p.length ≤ 17592186044400) (hb : (∀ n ∈ p, -9223372036854775808 ≤ n ∧ n ≤ 9223372036854775807)) (hv : (-9223372036854775808 ≤ v ∧ v ≤ 9223372036854775807)) (hlb : (∀ n ∈ l, -9223372036854775808 ≤ n ∧ n ≤ 9223372036854775807)) : AFn Try.prog 3 [intsA e, intsA p, intA v, intsA l] (boolA true) := by
  have c1 := a_lleaf e he
  have c2 := a_inner p v l hl hb hv hlb
  have sa := leafN_say e
  have sb := innerN_say p v l
  have k1 := a_nodesame (leafN e) (innerN p v l) (leafN_sm e)
  have k2 := a_refsame (leafN e) (innerN p v l) (leafN_sm e)
  generalize decide (leafN e = innerN p v l) = q at *
  generalize leafN e = a at *
  generalize innerN p v l = b at *
  generalize ndBytes a = Ba at *
  generalize ndBytes b = Bb at *
  generalize hvOf [] = Ha at *
  generalize hvOf (wtsN p v l) = Hb at *
  generalize ndHeavy a = Va at *
  generalize ndHeavy b = Vb at *
  generalize wtsN p v l = Xb at *
  generalize ([] : List Int) = Xa at *
  refine AFn_intro Try.func3 rfl Try.ntmps3 rfl (by simp) [_] rfl fun E hE => ?_; have hnt : (!true) = false := rfl; have hnf : (!false) = true := rfl
  have d0 := acall Try.func23 (a_awake9) (by decide +kernel) (by decide +kernel)
  have d1 := acall Try.func9 (c1) (by decide +kernel) (by decide +kernel)
  have d2 := acall Try.func10 (c2) (by decide +kernel) (by decide +kernel)
  have d3 := acall Try.func21 (k1) (by decide +kernel) (by decide +kernel)
  have d4 := acall Try.func22 (k2) (by decide +kernel) (by decide +kernel)
  have aw1 := acall Try.func11 (sa.w1) (by decide +kernel) (by decide +kernel)
  have aw2 := acall Try.func12 (sa.w2) (by decide +kernel) (by decide +kernel)
  have ab1 := acall Try.func13 (sa.b1) (by decide +kernel) (by decide +kernel)
  have ab2 := acall Try.func14 (sa.b2) (by decide +kernel) (by decide +kernel)
  have ach := acall Try.func15 (sa.ch) (by decide +kernel) (by decide +kernel)
  have afi := acall Try.func16 (sa.fi) (by decide +kernel) (by decide +kernel)
  have ah1 := acall Try.func17 (sa.h1) (by decide +kernel) (by decide +kernel)
  have ah2 := acall Try.func18 (sa.h2) (by decide +kernel) (by decide +kernel)
  have av1 := acall Try.func19 (sa.v1) (by decide +kernel) (by decide +kernel)
  have av2 := acall Try.func20 (sa.v2) (by decide +kernel) (by decide +kernel)
  have bw1 := acall Try.func11 (sb.w1) (by decide +kernel) (by decide +kernel)
  have bw2 := acall Try.func12 (sb.w2) (by decide +kernel) (by decide +kernel)
  have bb1 := acall Try.func13 (sb.b1) (by decide +kernel) (by decide +kernel)
  have bb2 := acall Try.func14 (sb.b2) (by decide +kernel) (by decide +kernel)
  have bch := acall Try.func15 (sb.ch) (by decide +kernel) (by decide +kernel)
  have bfi := acall Try.func16 (sb.fi) (by decide +kernel) (by decide +kernel)
  have bh1 := acall Try.func17 (sb.h1) (by decide +kernel) (by decide +kernel)
  have bh2 := acall Try.func18 (sb.h2) (by decide +kernel) (by decide +kernel)
  have bv1 := acall Try.func19 (sb.v1) (by decide +kernel) (by decide +kernel)
  have bv2 := acall Try.func20 (sb.v2) (by decide +kernel) (by decide +kernel)
  have hla := sa.len
  have hlb4 := sb.len
  have qa : ¬ Va ≠ Va := fun h => h rfl
  have qb : ¬ Vb ≠ Vb := fun h => h rfl
  have qf : ¬ false ≠ false := fun h => h rfl
  clear sa sb c1 c2 k1 k2
  refine wI ?_
  refine AW_loopI (fun j : Nat => ⟨[(9, .ptr 9 0 []), (10, .ptr 10 0 []), (11, intA j)], [(9, .var a.av), (10, .var b.av)]⟩) (fun j => j ≤ 2) (fun j => 2 - j) 0 (Nat.zero_le _) (by (refine Go2.sub ⟨?_, ?_⟩ <;> repeat' (first | exact True.intro | rfl | apply And.intro))) (fun j hj => ?_)
  by_cases c : j < 2
  · by_cases c1 : j = 1
    · subst c1
      refine wI ?_
      refine AW_loopI (fun k : Nat => ⟨[(9, .ptr 9 0 []), (10, .ptr 10 0 []), (11, intA ((1 : Nat) : Int)), (13, intsA Xb), (14, intsA Xb), (15, intA k)], [(9, .var a.av), (10, .var b.av)]⟩) (fun k => k ≤ Xb.length) (fun k => Xb.length - k) 0 (Nat.zero_le _) (by (refine Go2.sub ⟨?_, ?_⟩ <;> repeat' (first | exact True.intro | rfl | apply And.intro))) (fun k hk => ?_)
      by_cases ck : k < Xb.length
      · have hne : ¬ Xb[k] ≠ Xb[k] := fun h => h rfl
        refine wI ?_
        refine ⟨k + 1, ck, by omega, ?_⟩
        (refine Go2.sub ⟨?_, ?_⟩ <;> repeat' (first | exact True.intro | rfl | apply And.intro))
      · refine wI ?_
        refine ⟨2, by omega, by omega, ?_⟩
        (refine Go2.sub ⟨?_, ?_⟩ <;> repeat' (first | exact True.intro | rfl | apply And.intro))
    · obtain rfl : j = 0 := by omega
      refine wI ?_
      refine AW_loopI (fun k : Nat => ⟨[(9, .ptr 9 0 []), (10, .ptr 10 0 []), (11, intA ((0 : Nat) : Int)), (13, intsA Xa), (14, intsA Xa), (15, intA k)], [(9, .var a.av), (10, .var b.av)]⟩) (fun k => k ≤ Xa.length) (fun k => Xa.length - k) 0 (Nat.zero_le _) (by (refine Go2.sub ⟨?_, ?_⟩ <;> repeat' (first | exact True.intro | rfl | apply And.intro))) (fun k hk => ?_)
      by_cases ck : k < Xa.length
      · have hne : ¬ Xa[k] ≠ Xa[k] := fun h => h rfl
        refine wI ?_
        refine ⟨k + 1, ck, by omega, ?_⟩
        (refine Go2.sub ⟨?_, ?_⟩ <;> repeat' (first | exact True.intro | rfl | apply And.intro))
      · refine wI ?_
        refine ⟨1, by omega, by omega, ?_⟩
        (refine Go2.sub ⟨?_, ?_⟩ <;> repeat' (first | exact True.intro | rfl | apply And.intro))
  · obtain rfl : j = 2 := by omega
    refine wI ?_
    exact fin ⟨res_of rfl rfl rfl, trivial⟩
theorem nodeAll_walk (v0 : Value) (l0 : List (Int)) (v1 : Value) (l1 : List (Int)) (n2 : Int) (v3 : Value) (l3 : List (Int)) (w : World) (s0 : Sl ie 1 w v0 l0) (g0 : ∀ n ∈ l0, -9223372036854775808 ≤ n ∧ n ≤ 9223372036854775807) (z0 : l0.length ≤ 17592186043904) (s1 : Sl ie 1 w v1 l1) (g1 : ∀ n ∈ l1, -9223372036854775808 ≤ n ∧ n ≤ 9223372036854775807) (z1 : l1.length ≤ 17592186043904) (b2 : -9223372036854775808 ≤ n2 ∧ n2 ≤ 9223372036854775807) (s3 : Sl ie 1 w v3 l3) (g3 : ∀ n ∈ l3, -9223372036854775808 ≤ n ∧ n ≤ 9223372036854775807) (z3 : l3.length ≤ 17592186043904) :
    Calls Try.prog 3 #[v0, v1, .int .i64 n2, v3] w (Is w (.bool true)) :=
  law_of (a_nodeAll l0 l1 n2 l3 g0 (by omega) g1 b2 g3) (rdp_cons rfl (ints_in s0) (rdp_cons rfl (ints_in s1) (rdp_cons rfl int_in (rdp_cons rfl (ints_in s3) rdp_nil'))))
end Go.Proofs.Ytkpjkfjlpiidbaa
