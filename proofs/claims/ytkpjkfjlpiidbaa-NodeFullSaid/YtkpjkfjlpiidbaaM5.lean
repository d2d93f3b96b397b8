/-
  M5: several texts as one: NodeFacts, NodeAwake, StructIn, NodeIn, NodeFits, LawNode1, NodeFull, LawNode4. No condition beyond those that each theorem states.
-/
import Derived.Test.YtkpjkfjlpiidbaaM4
import Derived.OpenShut
import Derived.Deep.Slices
import Derived.Deep.Strs
import Derived.WideShapes
namespace Go.Proofs.Ytkpjkfjlpiidbaa
open Go Go.RowKit
set_option linter.unusedVariables false
set_option linter.unusedSimpArgs false
set_option maxRecDepth 100000

theorem AFn_weak {P : Program} {f : FuncId} {xs ys : List AV} {r : AV} (h : AFn P f ys r) (hw : ∀ H, WkL H xs ys) : AFn P f xs r := fun U w vs hr => h U w vs ((hw H0).rdp hr)
theorem piv3 (p : List Int) : (pivK (16 :: p) 3).length ≤ 3 := by
  have := pivK_le (16 :: p) 3 (by omega)
  omega
theorem innerN_sm (p : List Int) (v : Int) (l : List Int) : (innerN p v l).Sm := by
  have h1 := piv3 p
  have h2 := msgList_len l 205
  have h3 := kidsL_len v ((pivK (16 :: p) 3).length + 1)
  exact ⟨Nat.zero_le _, by show (kidsL v _).length ≤ _; omega, by show (pivK _ _).length ≤ _; omega, by show (msgList _ _).length ≤ _; omega⟩
theorem leafN_sm (l : List Int) : (leafN l).Sm := ⟨by have := entList_len l 248; show (entList l 248).length ≤ _; omega, Nat.zero_le _, Nat.zero_le _, Nat.zero_le _⟩
theorem innerN_ok (p : List Int) (v : Int) (l : List Int) : nodeOk keyCmp (innerN p v l) = true := by
  unfold nodeOk innerOk
  rw [if_neg (show ¬ (innerN p v l).leaf = true from by simp [innerN])]
  rw [show fanOkBy keyCmp (innerN p v l).ks (innerN p v l).ps = true from two_ok v p, show msgsOkB keyCmp (innerN p v l).ms = true from msgsOkB_true (msgList_bf l 205).msgs]
  rfl
theorem innerN_sum (p : List Int) (v : Int) (l : List Int) : bSum (innerN p v l).ms ≤ 205 := msgList_sum l 205 (by omega)
theorem innerN_fits (p : List Int) (v : Int) (l : List Int) : nodeFits (innerN p v l) = true := by
  unfold nodeFits
  rw [innerN_ok]
  have := innerN_sum p v l
  rw [if_neg (show ¬ (innerN p v l).leaf = true from by simp [innerN])]
  rw [Bool.true_and, decide_eq_true_eq]
  unfold ndBytes
  rw [if_neg (show ¬ (innerN p v l).leaf = true from by simp [innerN])]
  exact this
theorem leafN_ok (l : List Int) : nodeOk keyCmp (leafN l) = true := by
  unfold nodeOk leafOk
  rw [if_pos (show (leafN l).leaf = true from rfl)]
  rw [show entsOkB keyCmp (leafN l).es = true from entsOkB_true (entList_lf l 248).ents]
  rfl
theorem leafN_ebd (l : List Int) : EBd (leafN l).es := (entList_lf l 248).ok.bd
theorem leafN_fits (l : List Int) : nodeFits (leafN l) = true := by
  unfold nodeFits ndBytes
  rw [leafN_ok, if_pos (show (leafN l).leaf = true from rfl), if_pos (show (leafN l).leaf = true from rfl), Bool.true_and, decide_eq_true_eq]
  exact entsF_sum l 248 (by omega) 80
/-! ### all weights together -/
theorem wts_sum (n : Nd) (hr : Rise n.ps) : ∀ j, j ≤ n.ps.length + 1 → (wtsAt n j).sum = bSum (n.ms.take (accP n.ps n.ms j))
  | 0, _ => by rw [accP_zero]; rfl
  | j + 1, h => by
    rw [wtsAt_succ, List.sum_append, wts_sum n hr j (by omega), ← accP_step hr n.ms j (by omega), bSum_append]
    simp
theorem wts_all (n : Nd) (hr : Rise n.ps) (hk : n.ks.length = n.ps.length + 1) : (wtsAt n n.ks.length).sum = bSum n.ms := by
  rw [wts_sum n hr _ (by omega), hk, accP_end, List.take_length]
theorem wts_nn (n : Nd) (j : Nat) : ∀ x ∈ wtsAt n j, 0 ≤ x := fun x hx => by
  obtain ⟨i, _, rfl⟩ := List.mem_map.1 hx
  exact (bSum_le _).1
theorem sum_zero : ∀ (w : List Int), (∀ x ∈ w, x = 0) → w.sum = 0
  | [], _ => rfl
  | x :: l, h => by rw [List.sum_cons, h x List.mem_cons_self, sum_zero l (fun y hy => h y (List.mem_cons_of_mem _ hy))]; rfl
theorem sum_nn : ∀ (w : List Int), (∀ x ∈ w, 0 ≤ x) → 0 ≤ w.sum ∧ ∀ x ∈ w, x ≤ w.sum
  | [], _ => ⟨Int.le_refl _, fun x h => by cases h⟩
  | y :: l, h => by
    obtain ⟨h1, h2⟩ := sum_nn l (fun z hz => h z (List.mem_cons_of_mem _ hz))
    have h3 := h y List.mem_cons_self
    rw [List.sum_cons]
    refine ⟨by omega, fun x hx => ?_⟩
    rcases List.mem_cons.1 hx with rfl | hx
    · omega
    · have := h2 x hx; omega
theorem size_pos {m : Msg} (h : m.ok = true) : 0 < m.size := by
  have h1 := (Msg.spec h).2.2.1
  have h2 := Key.n_le h1
  unfold Msg.size
  rw [if_pos h]
  split
  · have := Vl.n_le (Msg.spec h).2.2.2.1; omega
  · split <;> omega
theorem bSum_zero {l : List Msg} (h : Bf l) (h0 : bSum l = 0) : l = [] := by
  cases l with
  | nil => rfl
  | cons m l =>
    have h1 := size_pos (h.ok m List.mem_cons_self)
    have h2 := (bSum_le l).1
    have : bSum (m :: l) = m.size + bSum l := by simp [bSum]
    omega
theorem hv_bd (w : List Int) : -1 ≤ hvOf w ∧ hvOf w < (w.length : Int) := by
  unfold hvOf
  rcases hvAt_is w w.length (Nat.le_refl _) with ⟨e1, _, _⟩ | ⟨a, ha, _, e1, _⟩
  · rw [e1]; omega
  · rw [e1]; omega
/-- none is heaviest just if there is nothing -/
theorem hv_none (n : Nd) (hb : Bf n.ms) (hr : Rise n.ps) (hk : n.ks.length = n.ps.length + 1) : hvOf (wtsAt n n.ks.length) = -1 ↔ n.ms = [] := by
  have hs := wts_all n hr hk
  have hn := wts_nn n n.ks.length
  unfold hvOf
  rcases hvAt_is (wtsAt n n.ks.length) _ (Nat.le_refl _) with ⟨e1, _, e3⟩ | ⟨a, ha, _, e1, _, e3, _⟩
  · constructor
    · intro _
      apply bSum_zero hb
      rw [← hs]
      apply sum_zero
      intro x hx
      obtain ⟨i, hi, rfl⟩ := List.getElem_of_mem hx
      have := e3 i hi hi
      have := hn _ hx
      omega
    · intro _; exact e1
  · constructor
    · intro h; rw [e1] at h; omega
    · intro h
      rw [h] at hs
      have h1 := (sum_nn _ hn).2 _ (List.getElem_mem ha)
      have h2 : bSum ([] : List Msg) = 0 := rfl
      omega
theorem innerN_kids (p : List Int) (v : Int) (l : List Int) : (innerN p v l).ks.length = (innerN p v l).ps.length + 1 := kidsL_len v _
theorem innerN_bf (p : List Int) (v : Int) (l : List Int) : Bf (innerN p v l).ms := msgList_bf l 205
theorem innerN_rise (p : List Int) (v : Int) (l : List Int) : Rise (innerN p v l).ps := pivK_rise _ _
def wtsN (p : List Int) (v : Int) (l : List Int) : List Int := wtsAt (innerN p v l) (innerN p v l).ks.length
theorem wtsN_len (p : List Int) (v : Int) (l : List Int) : (wtsN p v l).length = (innerN p v l).ks.length := wtsAt_len _ _
theorem wtsN_le (p : List Int) (v : Int) (l : List Int) : (wtsN p v l).length ≤ 4 := by
  rw [wtsN_len, innerN_kids]
  have := piv3 p
  show (pivK _ _).length + 1 ≤ 4
  omega
theorem hvN_none (p : List Int) (v : Int) (l : List Int) : hvOf (wtsN p v l) = -1 ↔ (innerN p v l).ms = [] := hv_none _ (innerN_bf p v l) (innerN_rise p v l) (innerN_kids p v l)
theorem a_weightsN (p : List Int) (v : Int) (l : List Int) : AFn Try.prog 11 [(innerN p v l).av] (intsA (wtsN p v l)) := by
  have h := innerN_sm p v l
  have h1 := piv3 p
  have h2 := msgList_len l 205
  exact a_weights_inner _ _ _ _ (innerN_bf p v l).srt (Nat.le_of_eq (innerN_kids p v l)) (by omega) (by omega)
theorem a_refweightsN (p : List Int) (v : Int) (l : List Int) : AFn Try.prog 12 [(innerN p v l).av] (intsA (wtsN p v l)) := by
  have h1 := piv3 p
  have h2 := msgList_len l 205
  exact a_refweights_inner _ _ _ _ (innerN_bf p v l) (innerN_rise p v l) (Nat.le_of_eq (innerN_kids p v l)) (by omega) (by omega)
theorem bfAdd_ne (l : List Msg) (m : Msg) : bfAdd l m ≠ [] := by unfold bfAdd bfSet; simp
theorem msgsF_ne (l : List Int) : ∀ j, msgsF l 205 (j + 1) ≠ []
  | 0 => by
    show msgStep 205 [] _ ≠ []
    unfold msgStep
    have h1 := (bSum_le (bfAdd [] (lawMsg (l.getD 0 0) ((0 + 1 : Nat) : Int)))).2
    have h2 : (bfAdd [] (lawMsg (l.getD 0 0) ((0 + 1 : Nat) : Int))).length = 1 := rfl
    rw [if_pos (Int.le_trans h1 (by rw [h2]; decide))]
    exact bfAdd_ne _ _
  | j + 1 => by
    show msgStep 205 (msgsF l 205 (j + 1)) _ ≠ []
    unfold msgStep
    split
    · exact bfAdd_ne _ _
    · exact msgsF_ne l j
theorem msgList_some (x : Int) (l : List Int) : msgList (x :: l) 205 ≠ [] := by
  unfold msgList
  have h : min (x :: l).length 60 = (min l.length 59) + 1 := by simp only [List.length_cons]; omega
  rw [h]
  exact msgsF_ne _ _
end Go.Proofs.Ytkpjkfjlpiidbaa

namespace Go.Proofs.Ytkpjkfjlpiidbaa
open Go Go.RowKit
set_option linter.unusedVariables false
set_option linter.unusedSimpArgs false
set_option maxRecDepth 100000

theorem wk_nils (n : Nat) : ∀ H, Wk H nilA (.sl none n []) := fun _ => Wk.nil
theorem a_inner30 (x : Int) (l : List Int) (hl : l = [] ∨ True) (hb : ∀ n ∈ l, -9223372036854775808 ≤ n ∧ n ≤ 9223372036854775807) : AFn Try.prog 10 [nilA, intA 3, intsA l] (innerN [] 3 l).av :=
  AFn_weak (a_inner [] 3 l (by simp) (by simp) (by omega) hb) fun H => .cons Wk.nil (.cons (Wk.data rfl) (.cons (Wk.data rfl) .nil))
theorem a_inner300 : AFn Try.prog 10 [nilA, intA 3, nilA] (innerN [] 3 []).av :=
  AFn_weak (a_inner [] 3 [] (by simp) (by simp) (by omega) (by simp)) fun H => .cons Wk.nil (.cons (Wk.data rfl) (.cons Wk.nil .nil))
theorem a_check0 : AFn Try.prog 15 [nodeA false nilA nilA nilA nilA] (boolA false) := by
  have h := a_nodecheck ⟨false, [], [], [], []⟩ ⟨by simp, by simp, by simp, by simp⟩
  have e : nodeOk keyCmp ⟨false, [], [], [], []⟩ = false := by
    unfold nodeOk innerOk
    rw [if_neg (by simp), show fanOkBy keyCmp [] [] = false from rfl, Bool.and_false]
    rfl
  rw [e] at h
  exact AFn_weak h fun H => .cons (Wk.agg (.cons (Wk.data rfl) (.cons Wk.nil (.cons Wk.nil (.cons Wk.nil (.cons Wk.nil .nil)))))) .nil
attribute [local irreducible] OpOK AWops AW CondB Go2 AFn thenA inBlockA noGotoA orderOk wantedA
set_option maxRecDepth 100000 in
set_option maxHeartbeats 4000000 in
theorem a_awake9 : AFn Try.prog 23 [] (boolA true) := by
  refine AFn_intro Try.func23 rfl Try.ntmps23 rfl (by simp) [_] rfl fun E hE => ?_
  have hnt : (!true) = false := rfl
  have hnf : (!false) = true := rfl
  have hB : ∀ n ∈ ([0] : List Int), -9223372036854775808 ≤ n ∧ n ≤ 9223372036854775807 := by simp
  have hB8 : ∀ n ∈ ([0, 8] : List Int), -9223372036854775808 ≤ n ∧ n ≤ 9223372036854775807 := by simp
  have cl := a_lleaf [0, 8] hB8
  have c1 := a_inner30 0 [0] (.inr trivial) hB
  have c2 := a_inner300
  have hv1 := a_heaviest (innerN [] 3 []) _ (a_weightsN [] 3 []) (by have := wtsN_le [] 3 []; omega)
  have hv2 := a_heaviest (innerN [] 3 [0]) _ (a_weightsN [] 3 [0]) (by have := wtsN_le [] 3 [0]; omega)
  have e1 : hvOf (wtsN [] 3 []) = -1 := (hvN_none [] 3 []).2 rfl
  have e2 : 0 ≤ hvOf (wtsN [] 3 [0]) := by
    have h1 := hv_bd (wtsN [] 3 [0])
    have h2 : hvOf (wtsN [] 3 [0]) ≠ -1 := fun h => msgList_some 0 [] ((hvN_none [] 3 [0]).1 h)
    omega
  rw [e1] at hv1
  have cw := a_weightsN [] 3 []
  have ew : (wtsN [] 3 []).length = (innerN [] 3 []).ks.length := wtsN_len _ _ _
  have k1 := a_nodecheck (innerN [] 3 []) (innerN_sm _ _ _)
  rw [innerN_ok] at k1
  have k2 := a_nodefits (leafN [0, 8]) (leafN_sm _)
  rw [leafN_fits] at k2
  have k3 := a_nodesame (leafN [0, 8]) (leafN [0, 8]) (leafN_sm _)
  rw [decide_eq_true rfl] at k3
  have k4 := a_nodesame (leafN [0, 8]) (innerN [] 3 []) (leafN_sm _)
  rw [decide_eq_false (fun h => by have := congrArg Nd.leaf h; cases this)] at k4
  have k5 := a_nodebytes (leafN [0, 8]) (leafN_sm _) (fun _ => leafN_ebd _)
  have k6 := a_ref07bytes (leafN [0, 8]).es (leafN_ebd _) (leafN_sm _).es
  have k7 := a_nodeheavy (leafN [0, 8]) (leafN_sm _) (fun _ => leafN_ebd _)
  rw [show ndBytes (leafN [0, 8]) = eSum (leafN [0, 8]).es from rfl] at k5
  rw [show ndHeavy (leafN [0, 8]) = false from rfl] at k7
  have hl1 : (leafN [0, 8]).av = Nd.av ⟨true, (leafN [0, 8]).es, [], [], []⟩ := rfl
  have hi1 : (innerN [] 3 []).av = Nd.av ⟨false, [], (innerN [] 3 []).ks, (innerN [] 3 []).ps, (innerN [] 3 []).ms⟩ := rfl
  have hi2 : (innerN [] 3 [0]).av = Nd.av ⟨false, [], (innerN [] 3 [0]).ks, (innerN [] 3 [0]).ps, (innerN [] 3 [0]).ms⟩ := rfl
  rw [hl1] at cl k2 k3 k4 k5 k7
  rw [hi1] at c2 hv1 cw k1 k4
  rw [hi2] at c1 hv2
  generalize (leafN [0, 8]).es = E1 at *
  generalize (innerN [] 3 []).ks = K1 at *
  generalize (innerN [] 3 []).ps = P1 at *
  generalize (innerN [] 3 []).ms = M1 at *
  generalize (innerN [] 3 [0]).ks = K2 at *
  generalize (innerN [] 3 [0]).ps = P2 at *
  generalize (innerN [] 3 [0]).ms = M2 at *
  generalize wtsN [] 3 [] = W1 at *
  generalize hvOf (wtsN [] 3 [0]) = V2 at *
  have k0 := a_check0
  have d0 := acall Try.func15 (k0) (by decide +kernel) (by decide +kernel)
  have d1 := acall Try.func9 (cl) (by decide +kernel) (by decide +kernel)
  have d2 := acall Try.func10 (c1) (by decide +kernel) (by decide +kernel)
  have d3 := acall Try.func10 (c2) (by decide +kernel) (by decide +kernel)
  have d4 := acall Try.func17 (hv1) (by decide +kernel) (by decide +kernel)
  have d5 := acall Try.func17 (hv2) (by decide +kernel) (by decide +kernel)
  have d6 := acall Try.func15 (k1) (by decide +kernel) (by decide +kernel)
  have d7 := acall Try.func16 (k2) (by decide +kernel) (by decide +kernel)
  have d8 := acall Try.func21 (k3) (by decide +kernel) (by decide +kernel)
  have d9 := acall Try.func21 (k4) (by decide +kernel) (by decide +kernel)
  have d10 := acall Try.func13 (k5) (by decide +kernel) (by decide +kernel)
  have d11 := acall Try.func40 (k6) (by decide +kernel) (by decide +kernel)
  have d12 := acall Try.func11 (cw) (by decide +kernel) (by decide +kernel)
  have d13 := acall Try.func19 (k7) (by decide +kernel) (by decide +kernel)
  have t1 : (-1 : Int) = -1 := rfl
  have t2 : eSum E1 = eSum E1 := rfl
  have t3 : (W1.length : Int) = (K1.length : Int) := by omega
  refine wI ?_
  exact fin ⟨res_of rfl rfl rfl, trivial⟩
end Go.Proofs.Ytkpjkfjlpiidbaa

namespace Go.Proofs.Ytkpjkfjlpiidbaa
open Go Go.RowKit
set_option linter.unusedVariables false
set_option linter.unusedSimpArgs false
set_option maxRecDepth 100000

section
variable {H : Type} {enc : TypeId × Value → H} {P : Program} {w : World} {base : Nat} {spare : Nat → Bool} {held : Bool} {fuel : Nat} {t : TypeId} {cs : List Value} {x : DataW H × List MemPlace}
theorem in_bytes {m : Nat} {e : TypeId} (ht : P.underlying t = some (.array m e)) (he : P.underlying e = some (.int .u8)) (hc : P.cellsOf e = 1) (hct : P.cellsOf t = m) (h : DataW.trod enc P w base spare held fuel t cs = some x) : ∃ b : Vector (BitVec 8) m, cs = (bArr b).toList := by
  obtain ⟨xs, n, _, _, hl, hx, hi⟩ := DataW.trod_array ht h
  rw [hct] at hl
  have each : ∀ i (hi : i < cs.length), ∃ z : Int, cs[i] = .int .u8 z ∧ 0 ≤ z ∧ z ≤ 255 := fun i hil => by
    have h1 := hi i (by omega)
    rw [hc, Nat.mul_one, List.getElem?_eq_getElem (by omega)] at h1
    obtain ⟨z, h2, _, h3⟩ := DataW.trod_int he h1
    rw [List.drop_eq_getElem_cons hil] at h2
    simp only [List.take_succ_cons, List.take_zero, List.cons.injEq, and_true] at h2
    exact ⟨z, h2, bounds_u8 h3⟩
  refine ⟨Vector.ofFn fun i => BitVec.ofInt 8 (intOf (cs.getD i.1 undef)), ?_⟩
  apply List.ext_getElem
  · simp [bArr_size, hl]
  · intro i h1 h2
    obtain ⟨z, h3, h4, h5⟩ := each i h1
    have := bArr_get (Vector.ofFn fun i => BitVec.ofInt 8 (intOf (cs.getD i.1 undef)) : Vector (BitVec 8) m) i (by omega)
    have h6 : (bArr (Vector.ofFn fun i => BitVec.ofInt 8 (intOf (cs.getD i.1 undef)) : Vector (BitVec 8) m)).toList[i]? = some (.int .u8 z) := by
      rw [Array.getElem?_toList, this]
      simp only [Vector.getElem_ofFn, List.getD_eq_getElem?_getD, List.getElem?_eq_getElem h1, Option.getD_some, h3, intOf]
      rw [B8_ofInt _ h4 (by omega)]
    rw [List.getElem?_eq_getElem h2] at h6
    rw [h3]
    exact (Option.some.inj h6).symm
theorem in_i64 (ht : P.underlying t = some (.int .i64)) (h : DataW.trod enc P w base spare held fuel t cs = some x) : ∃ n : Int, cs = [.int .i64 n] ∧ -9223372036854775808 ≤ n ∧ n ≤ 9223372036854775807 := by
  obtain ⟨n, h1, _, h2⟩ := DataW.trod_int ht h
  exact ⟨n, h1, bounds_i64 h2⟩
theorem in_u64 (ht : P.underlying t = some (.int .u64)) (h : DataW.trod enc P w base spare held fuel t cs = some x) : ∃ n : BitVec 64, cs = [.int .u64 (D64 n)] := by
  obtain ⟨n, h1, _, h2⟩ := DataW.trod_int ht h
  have := bounds_u64 h2
  exact ⟨BitVec.ofInt 64 n, by rw [D64_ofInt _ (by omega) (by omega)]; exact h1⟩
theorem row_of_cells {w : World} {b off n : Nat} {c : Array Value} (h : ∀ k, k < n → w.cell? ⟨b, off + k, none⟩ = c[k]?) (hs : c.size = n) (hn : 0 < n) : row? w b off n = some c := by
  have h0 := h 0 hn
  rw [Array.getElem?_eq_getElem (by omega)] at h0
  unfold World.cell? at h0
  split at h0
  · rename_i cs t fr hb
    rw [row_block hb]
    have each : ∀ k, k < n → cs[off + k]? = c[k]? := fun k hk => by
      have h1 := h k hk
      unfold World.cell? at h1
      simp only [hb, Option.isSome_none, Bool.false_eq_true, if_false] at h1
      exact h1
    have hlast := each (n - 1) (by omega)
    rw [Array.getElem?_eq_getElem (show n - 1 < c.size by omega)] at hlast
    have hlt := (Array.getElem?_eq_some_iff.1 hlast).1
    unfold rowOf
    rw [if_pos (by omega)]
    congr 1
    apply Array.ext_getElem?
    intro k
    rw [Array.getElem?_extract]
    by_cases hk : k < n
    · rw [if_pos (by omega)]; exact each k hk
    · rw [if_neg (by omega), Array.getElem?_eq_none (by omega)]
  · cases h0
/-- whatever the elements: a slice of them -/
theorem in_sliceG {α : Type} [Inhabited α] {e : TypeId} {n : Nat} {arr : α → Array Value} (he : EncOk arr n) (Q : α → Prop) (ht : P.underlying t = some (.slice e)) (hc : P.cellsOf e = n) (each : ∀ {fuel : Nat} {cs : List Value} {x : DataW H × List MemPlace}, DataW.trod enc P w base spare held fuel e cs = some x → ∃ a : α, cs = (arr a).toList ∧ Q a)
    (h : DataW.trod enc P w base spare held fuel t cs = some x) : ∃ v xs, cs = [v] ∧ Sl arr n w v xs ∧ ∀ a ∈ xs, Q a := by
  rcases Go.Deep.open_slice ht h with ⟨h1, _⟩ | ⟨a, len, cap, m, nn, Da, Pl, rfl, hb, hl, hm, hmm, _, hx⟩
  · exact ⟨_, [], h1, Sl.nil _ _ _, fun a h => by cases h⟩
  · rw [hc] at hx
    have hlm : len ≤ m := by rw [hmm]; split <;> omega
    obtain ⟨f, hf⟩ := Go.Deep.choose_lt (α := α) (p := fun i y => w.cells? base (a.add (i * n)) n = some (arr y).toList ∧ Q y) (n := len) (fun i hi => by
      obtain ⟨cs', k1, k2⟩ := hx i (by omega)
      obtain ⟨y, rfl, hq⟩ := each k2
      exact ⟨y, k1, hq⟩)
    refine ⟨_, (List.range len).map f, rfl, ⟨some a, cap, by simp, by simpa using hl, hm, fun h0 => ?_⟩, fun y hy => ?_⟩
    · have hsz := fun y => he.size y
      have hpos := he.pos
      obtain ⟨b, off, spot⟩ := a
      have h0' : 0 < len := by simpa using h0
      have hc0 := (World.cells?_some (hf 0 h0').1).2.2 0 (by omega)
      rw [Array.getElem?_toList, Array.getElem?_eq_getElem (by rw [hsz]; omega)] at hc0
      have hspot : spot = none := by simpa [Addr.add] using World.cell?_spot hc0
      subst hspot
      have hadd : ∀ o k, (⟨b, o, none⟩ : Addr).add k = ⟨b, o + k, none⟩ := fun o k => by unfold Addr.add; split <;> simp_all
      have hb' : b < w.heap.size := by
        have := block_lt_of_cell hc0
        simpa [hadd] using this
      refine ⟨b, off, rfl, hb', fun i hi => ?_⟩
      have hi' : i < len := by simpa using hi
      have h1 := (World.cells?_some (hf i hi').1).2.2
      simp only [List.getElem_map, List.getElem_range]
      refine row_of_cells (fun k hk => ?_) (hsz _) hpos
      have := h1 k hk
      rw [hadd, hadd] at this
      rw [this, Array.getElem?_toList]
    · obtain ⟨i, hi, rfl⟩ := List.mem_map.1 hy
      exact (hf i (List.mem_range.1 hi)).2
theorem in_slice {α : Type} [Inhabited α] (D : DT α) (Q : α → Prop) (ht : P.underlying t = some (.slice D.t)) (hc : P.cellsOf D.t = D.n) (each : ∀ {fuel : Nat} {cs : List Value} {x : DataW H × List MemPlace}, DataW.trod enc P w base spare held fuel D.t cs = some x → ∃ a : α, cs = (D.arr a).toList ∧ Q a)
    (h : DataW.trod enc P w base spare held fuel t cs = some x) : ∃ v xs, cs = [v] ∧ Sl D.arr D.n w v xs ∧ ∀ a ∈ xs, Q a := in_sliceG D.enc Q ht hc each h
end
section
variable {H : Type} {enc : TypeId × Value → H} {w : World} {base : Nat} {spare : Nat → Bool} {held : Bool} {fuel : Nat} {cs : List Value} {x : DataW H × List MemPlace}
theorem in_Key (h : DataW.trod enc Try.prog w base spare held fuel 40 cs = some x) : ∃ k : Key, cs = k.arr.toList ∧ -9223372036854775808 ≤ k.n ∧ k.n ≤ 9223372036854775807 := by
  obtain ⟨y0, y1, n, _, hl, h0, h1⟩ := Go.ChangeShapes.trod_struct2 Try.underlying40 h
  obtain ⟨z, e0, hz⟩ := in_i64 Try.underlying3 h0
  obtain ⟨b, e1⟩ := in_bytes (m := 8) Try.underlying38 Try.underlying5 (by kernel_rfl) (by kernel_rfl) h1
  have hl' : cs.length = 9 := hl.trans (by kernel_rfl)
  refine ⟨⟨z, b⟩, ?_, hz⟩
  rw [show Try.prog.cellsOf 3 = 1 from by kernel_rfl, List.drop_zero] at e0
  rw [show Try.prog.cellsOf 38 = 8 from by kernel_rfl] at e1
  rw [List.take_of_length_le (by simp; omega)] at e1
  rw [← List.take_append_drop 1 cs, e0, e1, Key.arr_def, cat_def, cel_def]
  simp
theorem in_Vl (h : DataW.trod enc Try.prog w base spare held fuel 43 cs = some x) : ∃ k : Vl, cs = k.arr.toList ∧ -9223372036854775808 ≤ k.n ∧ k.n ≤ 9223372036854775807 := by
  obtain ⟨y0, y1, n, _, hl, h0, h1⟩ := Go.ChangeShapes.trod_struct2 Try.underlying43 h
  obtain ⟨z, e0, hz⟩ := in_i64 Try.underlying3 h0
  obtain ⟨b, e1⟩ := in_bytes (m := 16) Try.underlying41 Try.underlying5 (by kernel_rfl) (by kernel_rfl) h1
  have hl' : cs.length = 17 := hl.trans (by kernel_rfl)
  refine ⟨⟨z, b⟩, ?_, hz⟩
  rw [show Try.prog.cellsOf 3 = 1 from by kernel_rfl, List.drop_zero] at e0
  rw [show Try.prog.cellsOf 41 = 16 from by kernel_rfl] at e1
  rw [List.take_of_length_le (by simp; omega)] at e1
  rw [← List.take_append_drop 1 cs, e0, e1, Vl.arr_def, cat_def, cel_def]
  simp
theorem in_Ent (h : DataW.trod enc Try.prog w base spare held fuel 45 cs = some x) : ∃ k : Ent, cs = k.arr.toList ∧ (-9223372036854775808 ≤ k.key.n ∧ k.key.n ≤ 9223372036854775807) ∧ (-9223372036854775808 ≤ k.val.n ∧ k.val.n ≤ 9223372036854775807) := by
  obtain ⟨y0, y1, n, _, hl, h0, h1⟩ := Go.ChangeShapes.trod_struct2 Try.underlying45 h
  obtain ⟨k, e0, hk⟩ := in_Key h0
  obtain ⟨v, e1, hv⟩ := in_Vl h1
  have hl' : cs.length = 26 := hl.trans (by kernel_rfl)
  refine ⟨⟨k, v⟩, ?_, hk, hv⟩
  rw [show Try.prog.cellsOf 40 = 9 from by kernel_rfl, List.drop_zero] at e0
  rw [show Try.prog.cellsOf 43 = 17 from by kernel_rfl] at e1
  rw [List.take_of_length_le (by simp; omega)] at e1
  rw [← List.take_append_drop 9 cs, e0, e1, Ent.arr_def, cat_def]
  simp
theorem in_Msg (h : DataW.trod enc Try.prog w base spare held fuel 48 cs = some x) : ∃ k : Msg, cs = k.arr.toList ∧ (-9223372036854775808 ≤ k.kind ∧ k.kind ≤ 9223372036854775807) := by
  obtain ⟨ys, n, _, _, hl, hys, hf⟩ := DataW.trod_struct Try.underlying48 h
  have hys' : ys.length = 5 := hys
  match ys, hys' with
  | [y0, y1, y2, y3, y4], _ =>
    obtain ⟨k0, e0, hk⟩ := in_i64 Try.underlying3 (show DataW.trod enc Try.prog w base spare held n 3 ((cs.drop 0).take (Try.prog.cellsOf 3)) = some y0 from hf 0 _ rfl)
    obtain ⟨k1, e1⟩ := in_u64 Try.underlying46 (show DataW.trod enc Try.prog w base spare held n 46 ((cs.drop 1).take (Try.prog.cellsOf 46)) = some y1 from hf 1 _ rfl)
    obtain ⟨k2, e2, _⟩ := in_Key (show DataW.trod enc Try.prog w base spare held n 40 ((cs.drop 2).take (Try.prog.cellsOf 40)) = some y2 from hf 2 _ rfl)
    obtain ⟨k3, e3, _⟩ := in_Vl (show DataW.trod enc Try.prog w base spare held n 43 ((cs.drop 11).take (Try.prog.cellsOf 43)) = some y3 from hf 3 _ rfl)
    obtain ⟨k4, e4⟩ := in_u64 Try.underlying46 (show DataW.trod enc Try.prog w base spare held n 46 ((cs.drop 28).take (Try.prog.cellsOf 46)) = some y4 from hf 4 _ rfl)
    have hl' : cs.length = 29 := hl.trans (by kernel_rfl)
    refine ⟨⟨k0, k1, k2, k3, k4⟩, ?_, hk⟩

    rw [show Try.prog.cellsOf 3 = 1 from by kernel_rfl, List.drop_zero] at e0
    rw [show Try.prog.cellsOf 46 = 1 from by kernel_rfl] at e1 e4
    rw [show Try.prog.cellsOf 40 = 9 from by kernel_rfl] at e2
    rw [show Try.prog.cellsOf 43 = 17 from by kernel_rfl] at e3
    have d1 : cs = cs.take 1 ++ ((cs.drop 1).take 1 ++ ((cs.drop 2).take 9 ++ ((cs.drop 11).take 17 ++ (cs.drop 28).take 1))) := by
      have sp : ∀ i n, cs.drop i = (cs.drop i).take n ++ cs.drop (i + n) := fun i n => by
        rw [← List.drop_drop]; exact (List.take_append_drop _ _).symm
      have s4 : (cs.drop 28).take 1 = cs.drop 28 := List.take_of_length_le (by simp; omega)
      rw [s4, ← sp 11 17, ← sp 2 9, ← sp 1 1, List.take_append_drop]
    rw [d1, e0, e1, e2, e3, e4, Msg.arr_def]
    simp only [cat_def, cel_def]
    simp
end
instance : Inhabited Key := ⟨Key.zero⟩
instance : Inhabited Vl := ⟨Vl.zero⟩
instance : Inhabited Ent := ⟨Ent.zero⟩
instance : Inhabited Msg := ⟨Msg.zero⟩
/-- a slice of structs that is handed in, as the law's frame has it -/
theorem in_structs {α : Type} [Inhabited α] (D : DT α) (Q : α → Prop) {H : Type} {enc : TypeId × Value → H} {w : World} {base : Nat} {spare : Nat → Bool} {held : Bool} {t : TypeId} {v : Value} {d : DataW H} {ps : List MemPlace} (ht : Try.prog.underlying t = some (.slice D.t)) (hc : Try.prog.cellsOf D.t = D.n)
    (each : ∀ {fuel : Nat} {cs : List Value} {x : DataW H × List MemPlace}, DataW.trod enc Try.prog w base spare held fuel D.t cs = some x → ∃ a : α, cs = (D.arr a).toList ∧ Q a) (h : DataW.Trod enc Try.prog w base spare held t v d ps) (hv : ∃ A len cap, v = .slice A len cap) :
    ∃ xs, Sl D.arr D.n w v xs ∧ ∀ a ∈ xs, Q a := by
  obtain ⟨fuel, hf⟩ := h
  obtain ⟨u, xs, h1, h2, h3⟩ := in_slice D Q ht hc each hf
  obtain ⟨A, len, cap, rfl⟩ := hv
  simp only [Value.cells, List.cons.injEq, and_true] at h1
  subst h1
  exact ⟨xs, h2, h3⟩
end Go.Proofs.Ytkpjkfjlpiidbaa

namespace Go.Proofs.Ytkpjkfjlpiidbaa
open Go Go.RowKit
set_option linter.unusedVariables false
set_option linter.unusedSimpArgs false
set_option maxRecDepth 100000

/-- a node's value: its slices' values, what these read as -/
structure NodeV (w : World) (v : Value) (n : Nd) : Prop where
  is : ∃ v1 v2 v3 v4, v = .agg #[.bool n.leaf, v1, v2, v3, v4] ∧ Sl Ent.arr 26 w v1 n.es ∧ Sl ie 1 w v2 n.ks ∧ Sl Key.arr 9 w v3 n.ps ∧ Sl Msg.arr 29 w v4 n.ms
section
variable {H : Type} {enc : TypeId × Value → H} {w : World} {base : Nat} {spare : Nat → Bool} {held : Bool} {fuel : Nat} {cs : List Value} {x : DataW H × List MemPlace}
theorem in_int (h : DataW.trod enc Try.prog w base spare held fuel 3 cs = some x) : ∃ n : Int, cs = (ie n).toList ∧ True := by
  obtain ⟨n, h1, _⟩ := in_i64 Try.underlying3 h
  exact ⟨n, h1, trivial⟩
theorem in_Node (h : DataW.trod enc Try.prog w base spare held fuel 27 cs = some x) : ∃ n v1 v2 v3 v4, cs = [.bool (Nd.leaf n), v1, v2, v3, v4] ∧ Sl Ent.arr 26 w v1 n.es ∧ Sl ie 1 w v2 n.ks ∧ Sl Key.arr 9 w v3 n.ps ∧ Sl Msg.arr 29 w v4 n.ms := by
  obtain ⟨ys, n, _, _, hl, hys, hf⟩ := DataW.trod_struct Try.underlying27 h
  have hys' : ys.length = 5 := hys
  match ys, hys' with
  | [y0, y1, y2, y3, y4], _ =>
    obtain ⟨lf, e0, _⟩ := DataW.trod_bool Try.underlying4 (show DataW.trod enc Try.prog w base spare held n 4 ((cs.drop 0).take (Try.prog.cellsOf 4)) = some y0 from hf 0 _ rfl)
    obtain ⟨v1, es, e1, s1, _⟩ := in_slice dEnt (fun _ => True) Try.underlying23 (by kernel_rfl) (fun h => by obtain ⟨k, hk, _⟩ := in_Ent h; exact ⟨k, hk, trivial⟩) (show DataW.trod enc Try.prog w base spare held n 23 ((cs.drop 1).take (Try.prog.cellsOf 23)) = some y1 from hf 1 _ rfl)
    obtain ⟨v2, ks, e2, s2, _⟩ := in_sliceG ie_ok (fun _ => True) Try.underlying22 (by kernel_rfl) (fun h => in_int h) (show DataW.trod enc Try.prog w base spare held n 22 ((cs.drop 2).take (Try.prog.cellsOf 22)) = some y2 from hf 2 _ rfl)
    obtain ⟨v3, ps, e3, s3, _⟩ := in_slice dKey (fun _ => True) Try.underlying24 (by kernel_rfl) (fun h => by obtain ⟨k, hk, _⟩ := in_Key h; exact ⟨k, hk, trivial⟩) (show DataW.trod enc Try.prog w base spare held n 24 ((cs.drop 3).take (Try.prog.cellsOf 24)) = some y3 from hf 3 _ rfl)
    obtain ⟨v4, ms, e4, s4, _⟩ := in_slice dMsg (fun _ => True) Try.underlying25 (by kernel_rfl) (fun h => by obtain ⟨k, hk, _⟩ := in_Msg h; exact ⟨k, hk, trivial⟩) (show DataW.trod enc Try.prog w base spare held n 25 ((cs.drop 4).take (Try.prog.cellsOf 25)) = some y4 from hf 4 _ rfl)
    have hl' : cs.length = 5 := hl.trans (by kernel_rfl)
    refine ⟨⟨lf, es, ks, ps, ms⟩, v1, v2, v3, v4, ?_, s1, s2, s3, s4⟩
    rw [show Try.prog.cellsOf 4 = 1 from by kernel_rfl, List.drop_zero] at e0
    rw [show Try.prog.cellsOf 23 = 1 from by kernel_rfl] at e1
    rw [show Try.prog.cellsOf 22 = 1 from by kernel_rfl] at e2
    rw [show Try.prog.cellsOf 24 = 1 from by kernel_rfl] at e3
    rw [show Try.prog.cellsOf 25 = 1 from by kernel_rfl] at e4
    match cs, hl' with
    | [c0, c1, c2, c3, c4], _ =>
      simp at e0 e1 e2 e3 e4
      subst e0 e1 e2 e3 e4
      rfl
end
/-- as the law's frame has it -/
theorem in_node {H : Type} {enc : TypeId × Value → H} {w : World} {base : Nat} {spare : Nat → Bool} {held : Bool} {v : Value} {d : DataW H} {ps : List MemPlace} (h : DataW.Trod enc Try.prog w base spare held 27 v d ps) (hv : ∃ cs, v = .agg cs ∧ cs.size = Try.prog.cellsOf 27) : ∃ n, NodeV w v n := by
  obtain ⟨fuel, hf⟩ := h
  obtain ⟨n, v1, v2, v3, v4, h1, h2⟩ := in_Node hf
  obtain ⟨cs, rfl, hs⟩ := hv
  have h3 : cs.toList = [.bool n.leaf, v1, v2, v3, v4] := h1
  exact ⟨n, v1, v2, v3, v4, by rw [← h3], h2⟩
theorem node_in {w : World} {v : Value} {n : Nd} (h : NodeV w v n) : Rdv (fun _ _ => False) w B0 H0 n.av v := by
  obtain ⟨v1, v2, v3, v4, rfl, s1, s2, s3, s4⟩ := h.is
  have r1 := Rdv_one (by simp) (DT.sl_in dEnt s1) rfl
  have r2 := Rdv_one (by simp) (ints_in s2) rfl
  have r3 := Rdv_one (by simp) (DT.sl_in dKey s3) rfl
  have r4 := Rdv_one (by simp) (DT.sl_in dMsg s4) rfl
  refine (Rdv_not (by simp [Nd.av, nodeA])).2 ⟨[.bool n.leaf, v1, v2, v3, v4], ?_, rfl⟩
  show Rd _ _ (.agg 5 [boolA n.leaf, entsA n.es, intsA n.ks, keysA n.ps, msgsA n.ms]) _ _ _
  simp only [Rd, Rds]
  exact ⟨rfl, [_], _, rfl, ⟨rfl, rfl⟩, [_], _, rfl, r1, [_], _, rfl, r2, [_], _, rfl, r3, [_], _, rfl, r4, rfl⟩
end Go.Proofs.Ytkpjkfjlpiidbaa

namespace Go.Proofs.Ytkpjkfjlpiidbaa
open Go Go.RowKit
set_option linter.unusedVariables false
set_option linter.unusedSimpArgs false
set_option maxRecDepth 100000

attribute [local irreducible] OpOK AWops AW CondB Go2 AFn thenA inBlockA noGotoA orderOk wantedA
set_option maxRecDepth 100000 in
set_option maxHeartbeats 4000000 in
theorem a_ref09fits (n : Nd) (h : n.Sm) : AFn Try.prog 26 [n.av] (boolA (nodeFits n)) := by
  have k1 := a_ref09check n h
  have k2 := fun hb => a_ref09bytes n h hb
  have hq := @nodeOk_ebd n
  obtain ⟨lf, es, ks, ps, ms⟩ := n
  dsimp only [Nd.av] at k1 k2 ⊢
  refine AFn_intro Try.func26 rfl Try.ntmps26 rfl (by simp) [_] rfl fun E hE => ?_
  have hnt : (!true) = false := rfl
  have hnf : (!false) = true := rfl
  cases q : nodeOk keyCmp ⟨lf, es, ks, ps, ms⟩ with
  | false =>
    rw [q] at k1
    have d1 := acall Try.func25 (k1) (by decide +kernel) (by decide +kernel)
    rw [show nodeFits ⟨lf, es, ks, ps, ms⟩ = false from by unfold nodeFits; rw [q]; rfl]
    refine wI ?_
    exact fin ⟨res_of rfl rfl rfl, trivial⟩
  | true =>
    have k3 := k2 (hq q)
    clear k2 hq
    rw [q] at k1
    have d1 := acall Try.func25 (k1) (by decide +kernel) (by decide +kernel)
    cases lf with
    | true =>
      rw [show ndBytes ⟨true, es, ks, ps, ms⟩ = eSum es from rfl] at k3
      rw [show nodeFits ⟨true, es, ks, ps, ms⟩ = decide (eSum es ≤ 248) from by unfold nodeFits; rw [q]; rfl]
      generalize eSum es = B at k3 ⊢
      have d2 := acall Try.func14 (k3) (by decide +kernel) (by decide +kernel)
      by_cases c : B ≤ 248
      · rw [decide_eq_true c]
        refine wI ?_
        exact fin ⟨res_of rfl rfl rfl, trivial⟩
      · rw [decide_eq_false c]
        refine wI ?_
        exact fin ⟨res_of rfl rfl rfl, trivial⟩
    | false =>
      rw [show ndBytes ⟨false, es, ks, ps, ms⟩ = bSum ms from rfl] at k3
      rw [show nodeFits ⟨false, es, ks, ps, ms⟩ = decide (bSum ms ≤ 205) from by unfold nodeFits; rw [q]; rfl]
      generalize bSum ms = B at k3 ⊢
      have d2 := acall Try.func14 (k3) (by decide +kernel) (by decide +kernel)
      refine wI ?_
      exact fin ⟨res_of rfl rfl rfl, trivial⟩
end Go.Proofs.Ytkpjkfjlpiidbaa

namespace Go.Proofs.Ytkpjkfjlpiidbaa
open Go Go.RowKit
set_option linter.unusedVariables false
set_option linter.unusedSimpArgs false
set_option maxRecDepth 100000

def fewB (n : Nd) : Bool := decide (n.es.length ≤ 80) && decide (n.ks.length ≤ 20) && decide (n.ps.length ≤ 20) && decide (n.ms.length ≤ 60)
theorem few_sm {n : Nd} (h : fewB n = true) : n.Sm := by
  unfold fewB at h
  simp only [Bool.and_eq_true, decide_eq_true_eq] at h
  exact ⟨by omega, by omega, by omega, by omega⟩
theorem take_bd : ∀ (w : List Int), (∀ x ∈ w, 0 ≤ x) → ∀ j, 0 ≤ (w.take j).sum ∧ (w.take j).sum ≤ w.sum
  | [], _, j => by simp
  | x :: w, h, 0 => by
    have := (sum_nn _ h).1
    simp only [List.take_zero, List.sum_nil]
    exact ⟨Int.le_refl _, this⟩
  | x :: w, h, j + 1 => by
    have h1 := take_bd w (fun y hy => h y (List.mem_cons_of_mem _ hy)) j
    have h2 := h x List.mem_cons_self
    rw [List.take_succ_cons, List.sum_cons, List.sum_cons]
    omega
theorem take_step (w : List Int) (j : Nat) (h : j < w.length) : (w.take (j + 1)).sum = (w.take j).sum + w[j] := by
  rw [List.take_succ_eq_append_getElem h, List.sum_append]
  simp
attribute [local irreducible] OpOK AWops AW CondB Go2 AFn thenA inBlockA noGotoA orderOk wantedA
set_option maxRecDepth 100000 in
set_option maxHeartbeats 4000000 in
theorem a_few (n : Nd) : AFn Try.prog 24 [n.av] (boolA (fewB n)) := by
  obtain ⟨lf, es, ks, ps, ms⟩ := n
  dsimp only [Nd.av]
  refine AFn_intro Try.func24 rfl Try.ntmps24 rfl (by simp) [_] rfl fun E hE => ?_
  by_cases c1 : es.length ≤ 80
  · by_cases c2 : ks.length ≤ 20
    · by_cases c3 : ps.length ≤ 20
      · by_cases c4 : ms.length ≤ 60
        · rw [show fewB ⟨lf, es, ks, ps, ms⟩ = true from by unfold fewB; dsimp only; rw [decide_eq_true c1, decide_eq_true c2, decide_eq_true c3, decide_eq_true c4]; rfl]
          refine wI ?_
          exact fin ⟨res_yes rfl (by omega), trivial⟩
        · rw [show fewB ⟨lf, es, ks, ps, ms⟩ = false from by unfold fewB; dsimp only; rw [decide_eq_true c1, decide_eq_true c2, decide_eq_true c3, decide_eq_false c4]; rfl]
          refine wI ?_
          exact fin ⟨res_no rfl (by omega), trivial⟩
      · rw [show fewB ⟨lf, es, ks, ps, ms⟩ = false from by unfold fewB; dsimp only; rw [decide_eq_true c1, decide_eq_true c2, decide_eq_false c3]; rfl]
        refine wI ?_
        exact fin ⟨res_of rfl rfl rfl, trivial⟩
    · rw [show fewB ⟨lf, es, ks, ps, ms⟩ = false from by unfold fewB; dsimp only; rw [decide_eq_true c1, decide_eq_false c2]; rfl]
      refine wI ?_
      exact fin ⟨res_of rfl rfl rfl, trivial⟩
  · rw [show fewB ⟨lf, es, ks, ps, ms⟩ = false from by unfold fewB; dsimp only; rw [decide_eq_false c1]; rfl]
    refine wI ?_
    exact fin ⟨res_of rfl rfl rfl, trivial⟩
set_option maxRecDepth 100000 in
set_option maxHeartbeats 4000000 in
theorem a_nodeRaw (a b : Nd) : AFn Try.prog 4 [a.av, b.av] (boolA true) := by
  refine AFn_intro Try.func4 rfl Try.ntmps4 rfl (by simp) [_] rfl fun E hE => ?_
  have hnt : (!true) = false := rfl
  have hnf : (!false) = true := rfl
  have d0 := acall Try.func23 (a_awake9) (by decide +kernel) (by decide +kernel)
  have f1 := a_few a
  have f2 := a_few b
  cases qa : fewB a with
  | false =>
    rw [qa] at f1
    have d1 := acall Try.func24 (f1) (by decide +kernel) (by decide +kernel)
    refine wI ?_
    exact fin ⟨res_of rfl rfl rfl, trivial⟩
  | true =>
    rw [qa] at f1
    have d1 := acall Try.func24 (f1) (by decide +kernel) (by decide +kernel)
    cases qb : fewB b with
    | false =>
      rw [qb] at f2
      have d2 := acall Try.func24 (f2) (by decide +kernel) (by decide +kernel)
      refine wI ?_
      exact fin ⟨res_of rfl rfl rfl, trivial⟩
    | true =>
      rw [qb] at f2
      have d2 := acall Try.func24 (f2) (by decide +kernel) (by decide +kernel)
      have sa := few_sm qa
      have k1 := a_nodecheck a sa
      have k2 := a_ref09check a sa
      have k3 := a_nodefits a sa
      have k4 := a_ref09fits a sa
      have k5 := a_nodesame a b sa
      have k6 := a_refsame a b sa
      have k7 := a_nodesame a a sa
      rw [decide_eq_true rfl] at k7
      generalize nodeOk keyCmp a = o at k1 k2
      generalize nodeFits a = f at k3 k4
      generalize decide (a = b) = s at k5 k6
      have d3 := acall Try.func15 (k1) (by decide +kernel) (by decide +kernel)
      have d4 := acall Try.func25 (k2) (by decide +kernel) (by decide +kernel)
      have d5 := acall Try.func16 (k3) (by decide +kernel) (by decide +kernel)
      have d6 := acall Try.func26 (k4) (by decide +kernel) (by decide +kernel)
      have d7 := acall Try.func21 (k5) (by decide +kernel) (by decide +kernel)
      have d8 := acall Try.func22 (k6) (by decide +kernel) (by decide +kernel)
      have d9 := acall Try.func21 (k7) (by decide +kernel) (by decide +kernel)
      refine wI ?_
      exact fin ⟨res_of rfl rfl rfl, trivial⟩
set_option maxRecDepth 100000 in
set_option maxHeartbeats 4000000 in
theorem a_nodeHeavy (p : List Int) (v : Int) (l : List Int) (hl : p.length ≤ 17592186044400) (hb : ∀ n ∈ p, -9223372036854775808 ≤ n ∧ n ≤ 9223372036854775807) (hv : -9223372036854775808 ≤ v ∧ v ≤ 9223372036854775807) (hlb : ∀ n ∈ l, -9223372036854775808 ≤ n ∧ n ≤ 9223372036854775807) : AFn Try.prog 6 [intsA p, intA v, intsA l] (boolA true) := by
  refine AFn_intro Try.func6 rfl Try.ntmps6 rfl (by simp) [_] rfl fun E hE => ?_
  have hnt : (!true) = false := rfl
  have hnf : (!false) = true := rfl
  have d0 := acall Try.func23 (a_awake9) (by decide +kernel) (by decide +kernel)
  have c1 := a_inner p v l hl hb hv hlb
  have c2 := a_nodeheavy _ (innerN_sm p v l) (fun h => by cases h)
  have c3 := a_nodebytes _ (innerN_sm p v l) (fun h => by cases h)
  have c4 := a_ref06bytes (innerN p v l).ms (innerN_sm p v l).ms
  rw [show ndHeavy (innerN p v l) = decide (2 * bSum (innerN p v l).ms ≥ 205) from rfl] at c2
  rw [show ndBytes (innerN p v l) = bSum (innerN p v l).ms from rfl] at c3
  have h1 := innerN_sum p v l
  have h2 := (bSum_le (innerN p v l).ms).1
  have c5 := a_lleaf l hlb
  have c6 := a_nodeheavy _ (leafN_sm l) (fun _ => leafN_ebd l)
  rw [show ndHeavy (leafN l) = false from rfl] at c6
  generalize innerN p v l = n at *
  generalize leafN l = m at *
  generalize bSum n.ms = B at *
  have d1 := acall Try.func10 (c1) (by decide +kernel) (by decide +kernel)
  have d2 := acall Try.func19 (c2) (by decide +kernel) (by decide +kernel)
  have d3 := acall Try.func13 (c3) (by decide +kernel) (by decide +kernel)
  have d4 := acall Try.func27 (c4) (by decide +kernel) (by decide +kernel)
  have d5 := acall Try.func9 (c5) (by decide +kernel) (by decide +kernel)
  have d6 := acall Try.func19 (c6) (by decide +kernel) (by decide +kernel)
  refine wI ?_
  exact fin ⟨res_of rfl rfl rfl, trivial⟩
set_option maxRecDepth 100000 in
set_option maxHeartbeats 4000000 in
theorem a_nodeWeights (p : List Int) (v : Int) (l : List Int) (hl : p.length ≤ 17592186044400) (hb : ∀ n ∈ p, -9223372036854775808 ≤ n ∧ n ≤ 9223372036854775807) (hv : -9223372036854775808 ≤ v ∧ v ≤ 9223372036854775807) (hlb : ∀ n ∈ l, -9223372036854775808 ≤ n ∧ n ≤ 9223372036854775807) : AFn Try.prog 5 [intsA p, intA v, intsA l] (boolA true) := by
  refine AFn_intro Try.func5 rfl Try.ntmps5 rfl (by simp) [_] rfl fun E hE => ?_
  have hnt : (!true) = false := rfl
  have hnf : (!false) = true := rfl
  have d0 := acall Try.func23 (a_awake9) (by decide +kernel) (by decide +kernel)
  have c1 := a_inner p v l hl hb hv hlb
  have c2 := a_weightsN p v l
  have c3 := a_heaviest _ _ c2 (by have := wtsN_le p v l; omega)
  have c4 := a_nodebytes _ (innerN_sm p v l) (fun h => by cases h)
  rw [show ndBytes (innerN p v l) = bSum (innerN p v l).ms from rfl] at c4
  have hwl := wtsN_len p v l
  have hw4 := wtsN_le p v l
  have hsum : (wtsN p v l).sum = bSum (innerN p v l).ms := wts_all _ (innerN_rise p v l) (innerN_kids p v l)
  have hnn : ∀ x ∈ wtsN p v l, 0 ≤ x := wts_nn _ _
  have h205 := innerN_sum p v l
  have hnone := hvN_none p v l
  have his : hvOf (wtsN p v l) = -1 ∨ ∃ a, ∃ h : a < (wtsN p v l).length, hvOf (wtsN p v l) = (a : Int) ∧ (∀ i (h : i < (wtsN p v l).length), (wtsN p v l)[i] ≤ (wtsN p v l)[a]) ∧ ∀ i (h : i < (wtsN p v l).length), i < a → (wtsN p v l)[i] < (wtsN p v l)[a] := by
    rcases hvAt_is (wtsN p v l) _ (Nat.le_refl _) with ⟨e1, _, _⟩ | ⟨a, ha, _, e1, _, _, e4, e5⟩
    · exact .inl e1
    · exact .inr ⟨a, ha, e1, fun i h => e4 i h h, e5⟩
  generalize innerN p v l = n at *
  generalize wtsN p v l = W at *
  have hbd := take_bd W hnn
  rw [hsum] at hbd
  have d1 := acall Try.func10 (c1) (by decide +kernel) (by decide +kernel)
  have d2 := acall Try.func11 (c2) (by decide +kernel) (by decide +kernel)
  rcases his with e1 | ⟨a, ha, e1, e4, e5⟩
  · rw [e1] at c3
    have d3 := acall Try.func17 (c3) (by decide +kernel) (by decide +kernel)
    have d4 := acall Try.func13 (c4) (by decide +kernel) (by decide +kernel)
    refine wI ?_
    refine AW_loopI (fun j : Nat => ⟨[(7, .ptr 7 0 []), (8, intsA W), (9, intA (-1)), (10, intA (W.take j).sum), (11, intA j)], [(7, .var n.av)]⟩) (fun j => j ≤ W.length) (fun j => W.length - j) 0 (Nat.zero_le _) (by (refine Go2.sub ⟨?_, ?_⟩ <;> repeat' (first | exact True.intro | rfl | apply And.intro))) (fun j hj => ?_)
    by_cases c : j < W.length
    · have hs := take_step W j c
      have h1 := hbd j
      have h2 := hbd (j + 1)
      refine wI ?_
      refine ⟨j + 1, c, by omega, ?_⟩
      rw [hs]
      (refine Go2.sub ⟨?_, ?_⟩ <;> repeat' (first | exact True.intro | rfl | apply And.intro))
    · obtain rfl : j = W.length := by omega
      have t1 : (W.take W.length).sum = bSum n.ms := by rw [List.take_length]; exact hsum
      have t2 : decide ((-1 : Int) = -1) = decide ((n.ms.length : Int) = 0) := by
        have := hnone.1 e1
        rw [this]; rfl
      refine wI ?_
      exact fin ⟨res_of rfl rfl rfl, trivial⟩
  · rw [e1] at c3
    have d3 := acall Try.func17 (c3) (by decide +kernel) (by decide +kernel)
    have d4 := acall Try.func13 (c4) (by decide +kernel) (by decide +kernel)
    have g1 : ¬ ((a : Int) < -1) := by omega
    have g2 : ¬ ((a : Int) ≥ (W.length : Int)) := by omega
    refine wI ?_
    refine AW_loopI (fun j : Nat => ⟨[(7, .ptr 7 0 []), (8, intsA W), (9, intA (a : Int)), (10, intA (W.take j).sum), (11, intA j)], [(7, .var n.av)]⟩) (fun j => j ≤ W.length) (fun j => W.length - j) 0 (Nat.zero_le _) (by (refine Go2.sub ⟨?_, ?_⟩ <;> repeat' (first | exact True.intro | rfl | apply And.intro))) (fun j hj => ?_)
    by_cases c : j < W.length
    · have hs := take_step W j c
      have h1 := hbd j
      have h2 := hbd (j + 1)
      have h3 := e4 j c
      by_cases ca : j < a
      · have h4 := e5 j c ca
        refine wI ?_
        refine ⟨j + 1, c, by omega, ?_⟩
        rw [hs]
        (refine Go2.sub ⟨?_, ?_⟩ <;> repeat' (first | exact True.intro | rfl | apply And.intro))
      · refine wI ?_
        refine ⟨j + 1, c, by omega, ?_⟩
        rw [hs]
        (refine Go2.sub ⟨?_, ?_⟩ <;> repeat' (first | exact True.intro | rfl | apply And.intro))
    · obtain rfl : j = W.length := by omega
      have t1 : (W.take W.length).sum = bSum n.ms := by rw [List.take_length]; exact hsum
      have t2 : decide ((a : Int) = -1) = decide ((n.ms.length : Int) = 0) := by
        have h1 : ¬ n.ms = [] := fun h => by have := hnone.2 h; omega
        rw [decide_eq_false (by omega), decide_eq_false (fun h => h1 (List.eq_nil_of_length_eq_zero (by omega)))]
      refine wI ?_
      exact fin ⟨res_of rfl rfl rfl, trivial⟩
theorem nodeRaw_walk (v0 : Value) (x0 : Nd) (v1 : Value) (x1 : Nd) (w : World) (s0 : NodeV w v0 x0) (s1 : NodeV w v1 x1) :
    Calls Try.prog 4 #[v0, v1] w (Is w (.bool true)) :=
  law_of (a_nodeRaw x0 x1) (rdp_cons rfl (node_in s0) (rdp_cons rfl (node_in s1) rdp_nil'))
theorem nodeWeights_walk (v0 : Value) (l0 : List (Int)) (n1 : Int) (v2 : Value) (l2 : List (Int)) (w : World) (s0 : Sl ie 1 w v0 l0) (g0 : ∀ n ∈ l0, -9223372036854775808 ≤ n ∧ n ≤ 9223372036854775807) (z0 : l0.length ≤ 17592186043904) (b1 : -9223372036854775808 ≤ n1 ∧ n1 ≤ 9223372036854775807) (s2 : Sl ie 1 w v2 l2) (g2 : ∀ n ∈ l2, -9223372036854775808 ≤ n ∧ n ≤ 9223372036854775807) (z2 : l2.length ≤ 17592186043904) :
    Calls Try.prog 5 #[v0, .int .i64 n1, v2] w (Is w (.bool true)) :=
  law_of (a_nodeWeights l0 n1 l2 (by omega) g0 b1 g2) (rdp_cons rfl (ints_in s0) (rdp_cons rfl int_in (rdp_cons rfl (ints_in s2) rdp_nil')))
theorem nodeHeavy_walk (v0 : Value) (l0 : List (Int)) (n1 : Int) (v2 : Value) (l2 : List (Int)) (w : World) (s0 : Sl ie 1 w v0 l0) (g0 : ∀ n ∈ l0, -9223372036854775808 ≤ n ∧ n ≤ 9223372036854775807) (z0 : l0.length ≤ 17592186043904) (b1 : -9223372036854775808 ≤ n1 ∧ n1 ≤ 9223372036854775807) (s2 : Sl ie 1 w v2 l2) (g2 : ∀ n ∈ l2, -9223372036854775808 ≤ n ∧ n ≤ 9223372036854775807) (z2 : l2.length ≤ 17592186043904) :
    Calls Try.prog 6 #[v0, .int .i64 n1, v2] w (Is w (.bool true)) :=
  law_of (a_nodeHeavy l0 n1 l2 (by omega) g0 b1 g2) (rdp_cons rfl (ints_in s0) (rdp_cons rfl int_in (rdp_cons rfl (ints_in s2) rdp_nil')))
end Go.Proofs.Ytkpjkfjlpiidbaa

namespace Go.Proofs.Ytkpjkfjlpiidbaa
open Go Go.RowKit
set_option linter.unusedVariables false
set_option linter.unusedSimpArgs false
set_option maxRecDepth 100000

section
variable {E : Env} {nt : Nat} {ops : Array Oper} {T : Nat → Option AV} {H : Hp} {d : Option Nat} {ty : TypeId} {pos : String} {af : Array Edge} {gd : Option (Nat × Bool)}
theorem o_minl {x y : Operand} {t t' : TypeId} {k : IntKind} {p q : Int} (hd : dOk nt d = true) (hx : evalO T x = some (.v (.int k p))) (hy : evalO T y = some (.v (.int k q))) (h : p ≤ q) :
    OpOK Try.prog E nt ops ⟨d, .call { callee := .builtin .min, args := #[x, y], argTypes := #[t, t'] }, ty, pos, af, gd⟩ T H [] ⟨.v (.int k p), []⟩ := by
  have h1 := ok_min (P := Try.prog) (E := E) (ops := ops) (H := H) (ty := ty) (pos := pos) (af := af) (gd := gd) (t := t) (t' := t') hd hx hy
  rwa [if_neg (by omega)] at h1
theorem o_minr {x y : Operand} {t t' : TypeId} {k : IntKind} {p q : Int} (hd : dOk nt d = true) (hx : evalO T x = some (.v (.int k p))) (hy : evalO T y = some (.v (.int k q))) (h : q < p) :
    OpOK Try.prog E nt ops ⟨d, .call { callee := .builtin .min, args := #[x, y], argTypes := #[t, t'] }, ty, pos, af, gd⟩ T H [] ⟨.v (.int k q), []⟩ := by
  have h1 := ok_min (P := Try.prog) (E := E) (ops := ops) (H := H) (ty := ty) (pos := pos) (af := af) (gd := gd) (t := t) (t' := t') hd hx hy
  rwa [if_pos h] at h1
theorem o_cvbi {s t : TypeId} {x : Operand} {b : BitVec 8} (hs : ∃ u, Try.prog.underlying s = some u) (ht : Try.prog.underlying t = some (.int .i64)) (hd : dOk nt d = true) (hx : evalO T x = some (byteA b)) : OpOK Try.prog E nt ops ⟨d, .convert s t x, ty, pos, af, gd⟩ T H [] ⟨intA (b.toNat : Nat), []⟩ :=
  ok_conv_i hs ht hd hx (by rw [B8_def]; exact IntWalk.i64_in _ (by have := b.isLt; omega))
end
theorem zero_b8 : ZeroOk Try.prog 38 (.arr 8 1 [byteA 0#8, byteA 0#8, byteA 0#8, byteA 0#8, byteA 0#8, byteA 0#8, byteA 0#8, byteA 0#8]) := zero_of (v := .agg #[.int .u8 0, .int .u8 0, .int .u8 0, .int .u8 0, .int .u8 0, .int .u8 0, .int .u8 0, .int .u8 0]) (n := 8) (by kernel_rfl) fun U w => by
  have e : B8 0#8 = 0 := by rw [B8_def]; rfl
  simp only [byteA, e, Rd, Rdu, Value.cells]
  exact ⟨rfl, [_], _, rfl, rfl, ⟨rfl, rfl⟩, [_], _, rfl, rfl, ⟨rfl, rfl⟩, [_], _, rfl, rfl, ⟨rfl, rfl⟩, [_], _, rfl, rfl, ⟨rfl, rfl⟩, [_], _, rfl, rfl, ⟨rfl, rfl⟩, [_], _, rfl, rfl, ⟨rfl, rfl⟩, [_], _, rfl, rfl, ⟨rfl, rfl⟩, [_], _, rfl, rfl, ⟨rfl, rfl⟩, rfl⟩
theorem wN {Q R : Prop} (k : R) (h : Hid R → Q := by intro kHid; (repeat (first | (first | refine Wend _ ?_ | refine AW_seq ?_ | refine AW_reg ?_ | refine AW_drw mixed ?_ | refine AW_block ?_ | refine AW_scope ?_ | refine thenA_n ?_ | refine blockA_n ?_ | refine blockA_h ?_ | refine scopeA_n ?_ | refine thenA_r ?_ | refine blockA_r ?_ | refine scopeA_r ?_ | refine thenA_e ?_ | refine scopeA_e ?_ | refine blockA_e rfl ?_ | refine AW_exit ?_ | refine AW_ret ?_ | refine AW_skip ?_ | refine AW_c rfl ?_ | with_reducible refine cb_t ?_ | with_reducible refine cb_f ?_ | with_reducible refine cb_yes (by first | assumption | omega) ?_ | with_reducible refine cb_no (by first | assumption | omega) ?_ | refine And.intro (by decide +kernel) ?_) | (first | (apply Wv; (focus (first | exact step_ok rfl rfl | exact o_idx rfl rfl rfl rfl (by first | assumption | omega | decide) | exact o_idx3 rfl rfl rfl rfl (by first | assumption | omega | decide) | exact o_idx2 rfl rfl rfl rfl rfl (by first | assumption | omega | decide) | exact o_idxr rfl rfl rfl rfl rfl rfl | exact o_lenm rfl rfl rfl | exact o_len rfl rfl rfl | exact o_len0 rfl rfl rfl | exact o_lens rfl rfl rfl | exact o_lent rfl rfl | exact o_add1 rfl rfl rfl (by omega) | exact o_addn rfl rfl rfl (by omega) | exact o_add rfl rfl rfl (by omega) | exact o_sub1 rfl rfl rfl (by omega) | exact o_sub rfl rfl rfl (by omega) | exact o_mul rfl rfl rfl (by omega) | exact o_rem rfl rfl rfl (by omega) | exact ok_rem rfl rfl rfl (by decide) rfl | exact o_eqKey rfl rfl rfl | exact o_neKey rfl rfl rfl | exact o_eqVl rfl rfl rfl | exact o_neVl rfl rfl rfl | exact o_eqEnt rfl rfl rfl | exact o_neEnt rfl rfl rfl | exact o_eqMsg rfl rfl rfl | exact o_neMsg rfl rfl rfl | exact o_acall rfl rfl rfl rfl (by assumption) | exact o_cutl rfl rfl rfl rfl (by omega) | exact o_cuth rfl rfl rfl rfl (by omega) | exact o_cutl3 rfl rfl rfl rfl (by omega) | exact o_cuth3 rfl rfl rfl rfl (by omega) | exact o_cutl2 rfl rfl rfl rfl rfl (by omega) | exact o_cuth2 rfl rfl rfl rfl rfl (by omega) | exact o_cutlh2 rfl rfl rfl rfl rfl rfl rfl (by omega) (by omega) | exact e_bld rfl rfl rfl | exact e_bldk rfl rfl | exact z_bld0 rfl rfl rfl rfl rfl | exact z_bld rfl rfl rfl rfl rfl rfl rfl | exact o_addu rfl rfl rfl | exact o_mulu rfl rfl rfl (by decide) | exact o_convb ⟨_, Try.underlying3⟩ Try.underlying5 rfl rfl | exact o_convu ⟨_, Try.underlying3⟩ Try.underlying46 rfl rfl | exact o_convs Try.underlying74 Try.underlying5 Try.underlying9 rfl rfl | exact o_idxs rfl rfl rfl rfl (by first | assumption | omega) | exact o_minl rfl rfl rfl (by omega) | exact o_minr rfl rfl rfl (by omega) | exact o_cvbi ⟨_, Try.underlying5⟩ Try.underlying3 rfl rfl | exact o_blda zero_b8 rfl rfl rfl rfl rfl rfl rfl rfl rfl | exact o_mkifc rfl rfl rfl (by decide +kernel) | exact o_asy rfl rfl rfl (by decide +kernel) | exact o_asn rfl rfl rfl rfl (by decide +kernel) (by decide +kernel) | exact o_minv rfl rfl rfl rfl rfl rfl (by assumption) | exact z_blda rfl rfl rfl rfl rfl rfl rfl rfl rfl | exact o_idxa rfl rfl rfl rfl rfl rfl | exact o_idxra rfl rfl rfl rfl rfl rfl rfl | exact o_quo2 rfl rfl rfl (by omega) | exact o_quo rfl rfl rfl (by omega))); (focus (first | exact want_n | exact want_g rfl (by with_reducible rfl)))) | (apply Wb; (focus (first | exact o_box rfl rfl rfl rfl | exact o_app rfl rfl rfl rfl rfl (by first | exact o_many rfl | exact o_one _ _ rfl) (by first | omega | (simp; omega) | simp) (by first | omega | (simp; omega) | simp) | exact o_appn rfl rfl rfl rfl rfl (by first | exact o_many rfl | exact o_one _ _ rfl) (by first | omega | (simp; omega) | simp) (by first | omega | (simp; omega) | simp) | exact o_app1 rfl rfl rfl rfl rfl (by first | exact o_many rfl | exact o_one _ _ rfl) (by exact rfl) (by first | omega | (simp; omega) | simp) (by first | omega | (simp; omega) | simp) | exact o_app0 rfl rfl rfl rfl rfl (by first | exact o_many rfl | exact o_one _ _ rfl) (by first | omega | (simp; omega) | simp) (by first | omega | (simp; omega) | simp) | exact o_bsl0 rfl rfl rfl | exact z_bsll rfl rfl rfl rfl rfl rfl rfl rfl rfl | exact z_alloc rfl rfl rfl)); (focus (first | exact want_n | exact want_g rfl (by with_reducible rfl)))) | (apply Ws; (focus (exact ok_store tabT (d := none) rfl rfl rfl rfl rfl rfl rfl rfl rfl rfl)); (focus (first | exact want_n | exact want_g rfl (by with_reducible rfl)))) | (refine Wskip (by first | exact want_f rfl (by with_reducible exact b_nt) | exact want_f rfl (by with_reducible exact b_nf) | exact want_t rfl) rfl ?_) | refine Wgt rfl rfl (by first | assumption | omega | exact rfl) ?_ | refine Wgf rfl rfl (by first | assumption | omega | exact rfl) ?_ | (refine Wgb rfl rfl (by with_reducible assumption) ?_) | (refine cb_is _ (by assumption) ?_)))); exact kHid.out) : Q := h ⟨k⟩
/-! ### the law's keys, values, entries, messages -/
def fKey (x : BitVec 8) (i : Nat) : Key := ⟨2, #v[BitVec.ofInt 8 (97 + (i : Int)), x, 0#8, 0#8, 0#8, 0#8, 0#8, 0#8]⟩
def fVl (v : Int) : Vl := ⟨v, Vl.zero.b⟩
def fEnt (x : BitVec 8) (d : Int) (i : Nat) : Ent := ⟨fKey x i, fVl (if i < 12 then 16 else 4 + d)⟩
def fEnts (x : BitVec 8) (d : Int) (j : Nat) : List Ent := (List.range j).map (fEnt x d)
def fWide (d : Int) (i : Nat) : Int := if i < 6 then 16 else if i = 6 then 5 + d else 0
def fMsg (x : BitVec 8) (d : Int) (i : Nat) : Msg := ⟨1, 1#64, fKey x i, fVl (fWide d i), 0#64⟩
def fMsgs (x : BitVec 8) (d : Int) (j : Nat) : List Msg := (List.range j).map (fMsg x d)
def rawM (x : BitVec 8) (d : Int) (i : Nat) : AV := .agg 29 [intA 1, .v (.int .u64 1), (fKey x i).av, (fVl (fWide d i)).av, u64A 0#64]
theorem fEnts_succ (x : BitVec 8) (d : Int) (j : Nat) : fEnts x d (j + 1) = fEnts x d j ++ [fEnt x d j] := by simp [fEnts, List.range_succ]
theorem fEnts_len (x : BitVec 8) (d : Int) (j : Nat) : (fEnts x d j).length = j := by simp [fEnts]
theorem fKey_mk (x : BitVec 8) (i : Nat) : fKey x i = mkKey [BitVec.ofInt 8 (97 + (i : Int)), x] := by
  unfold fKey mkKey
  congr 1
theorem fKey_ok (x : BitVec 8) (i : Nat) : (fKey x i).ok = true := by rw [fKey_mk]; exact mkKey_ok _ (by simp)
theorem fKey_rank (x : BitVec 8) {i j : Nat} (h : i < j) (hj : j < 100) : (fKey x i).rank < (fKey x j).rank := by
  have hc : keyCmp (fKey x i) (fKey x j) = -1 := by
    unfold keyCmp
    rw [fKey_mk, fKey_mk, mkKey_txt _ (by simp), mkKey_txt _ (by simp)]
    unfold lexCmp
    rw [if_pos]
    rw [BitVec.toNat_ofInt, BitVec.toNat_ofInt]
    omega
  rw [keyCmp_rank] at hc
  unfold sgn at hc
  split at hc
  · assumption
  · split at hc <;> omega
theorem fVl_ok {v : Int} (h : 0 ≤ v ∧ v ≤ 16) : (fVl v).ok = true := by
  rw [Vl.ok_iff]
  refine ⟨h.1, h.2, ?_⟩
  apply Vector.ext
  intro k hk
  simp only [trunc, fVl, Vector.getElem_ofFn, Vl.zero, Vector.getElem_replicate]
  split <;> rfl
theorem fEnts_lf (x : BitVec 8) {d : Int} (hd : d = 0 ∨ d = 1) (j : Nat) (hj : j ≤ 13) : Lf (fEnts x d j) := by
  refine ⟨fun e he => ?_, ?_⟩
  · obtain ⟨i, _, rfl⟩ := List.mem_map.1 he
    exact ⟨fKey_ok x i, fVl_ok (by split <;> omega)⟩
  · unfold Srt fEnts
    rw [List.pairwise_map]
    have h1 := List.pairwise_lt_range (n := j)
    exact h1.imp_of_mem fun ha hb h => fKey_rank x h (by have := List.mem_range.1 hb; omega)
theorem fMsg_ok (x : BitVec 8) {d : Int} (hd : d = 0 ∨ d = 1) (i : Nat) : (fMsg x d i).ok = true :=
  Msg.mkOk ⟨by show (1 : Int) ≤ 1; omega, by show (1 : Int) ≤ 3; omega⟩ (fKey_ok x i) (by rw [if_pos rfl]; exact fVl_ok (by unfold fWide; split; omega; split <;> omega)) (fun h => rfl)
theorem fMsgs_bf (x : BitVec 8) {d : Int} (hd : d = 0 ∨ d = 1) (j : Nat) (hj : j ≤ 13) : Bf (fMsgs x d j) := by
  refine ⟨fun e he => ?_, ?_⟩
  · obtain ⟨i, _, rfl⟩ := List.mem_map.1 he
    exact fMsg_ok x hd i
  · unfold BSrt fMsgs
    rw [List.pairwise_map]
    have h1 := List.pairwise_lt_range (n := j)
    exact h1.imp_of_mem fun ha hb h => fKey_rank x h (by have := List.mem_range.1 hb; omega)
theorem fEnts_sum (x : BitVec 8) (d : Int) : eSum (fEnts x d 13) = 248 + d := by
  have h : ∀ i, (fEnt x d i).size = if i < 12 then 20 else 8 + d := fun i => by
    show 2 + (2 : Int) + (if i < 12 then 16 else 4 + d) = _
    split <;> omega
  unfold eSum fEnts
  rw [List.map_map]
  rw [show (Ent.size ∘ fEnt x d) = fun i => if i < 12 then 20 else 8 + d from funext h]
  simp [List.range_succ]
  omega
theorem fMsgs_sum (x : BitVec 8) {d : Int} (hd : d = 0 ∨ d = 1) : bSum (fMsgs x d 8) = 205 + d := by
  have h : ∀ i, (fMsg x d i).size = 13 + fWide d i := fun i => by
    unfold Msg.size
    rw [if_pos (fMsg_ok x hd i), if_pos (show (fMsg x d i).kind = 1 from rfl)]
    show 11 + (2 : Int) + fWide d i = _
    omega
  unfold bSum fMsgs
  rw [List.map_map]
  rw [show (Msg.size ∘ fMsg x d) = fun i => 13 + fWide d i from funext h]
  simp [List.range_succ, fWide]
  omega
theorem rawM_eq (x : BitVec 8) (d : Int) (i : Nat) : rawM x d i = (fMsg x d i).av := by
  unfold rawM fMsg Msg.av u64A
  rw [show D64 1#64 = 1 from by rw [D64_def]; rfl]
theorem rawMs (x : BitVec 8) (d : Int) (j : Nat) : (List.range j).map (rawM x d) = (fMsgs x d j).map Msg.av := by
  unfold fMsgs
  rw [List.map_map]
  exact List.map_congr_left fun i _ => rawM_eq x d i
end Go.Proofs.Ytkpjkfjlpiidbaa

namespace Go.Proofs.Ytkpjkfjlpiidbaa
open Go Go.RowKit
set_option linter.unusedVariables false
set_option linter.unusedSimpArgs false
set_option maxRecDepth 100000

def innerK (v : Int) (P : List Key) : Nat → St
  | 0 => ⟨[(6, .ptr 6 0 []), (7, .ptr 7 0 []), (8, intA (1 + v % 200)), (9, intA ((0 : Nat) : Int))], [(6, .var (nodeA false nilA nilA nilA nilA)), (7, .var (nodeA false nilA nilA (keysA P) nilA))]⟩
  | j + 1 => ⟨[(6, .ptr 6 0 []), (7, .ptr 7 0 []), (8, intA (1 + v % 200)), (9, intA ((j + 1 : Nat) : Int))], [(6, .var (nodeA false nilA nilA nilA nilA)), (7, .var (nodeA false nilA (.sl (some 34) 1 ((kidsL v (j + 1)).map intA)) (keysA P) nilA)), (34, .tail 3 1 (kidsL v (j + 1)).length)]⟩
@[irreducible] def leftL (d : Int) (j : Nat) : Int := if j ≤ 12 then 248 + d - 20 * (j : Int) else 0
def fullE (x : BitVec 8) (d : Int) (m : Bool) : Nat → St
  | 0 => ⟨[(0, byteA x), (1, boolA m), (5, .ptr 5 0 []), (6, intA (leftL d 0)), (7, intA ((0 : Nat) : Int))], [(5, .var (nodeA true nilA nilA nilA nilA))]⟩
  | j + 1 => ⟨[(0, byteA x), (1, boolA m), (5, .ptr 5 0 []), (6, intA (leftL d (j + 1))), (7, intA ((j + 1 : Nat) : Int))], [(5, .var (nodeA true (.sl (some 52) 26 ((fEnts x d (j + 1)).map Ent.av)) nilA nilA nilA)), (52, .tail 45 26 (fEnts x d (j + 1)).length)]⟩
@[irreducible] def leftM (d : Int) (j : Nat) : Int := if j ≤ 6 then 205 + d - 29 * (j : Int) else if j = 7 then 13 else 0
def fullM (x : BitVec 8) (d : Int) (m : Bool) (K : List Int) (P : List Key) : Nat → St
  | 0 => ⟨[(0, byteA x), (1, boolA m), (5, .ptr 5 0 []), (10, .ptr 10 0 []), (6, intA (leftM d 0)), (11, intA ((0 : Nat) : Int))], [(5, .var (nodeA true (.sl (some 52) 26 ((fEnts x d 13).map Ent.av)) nilA nilA nilA)), (52, .tail 45 26 (fEnts x d 13).length), (10, .var (nodeA false nilA (intsA K) (keysA P) nilA))]⟩
  | j + 1 => ⟨[(0, byteA x), (1, boolA m), (5, .ptr 5 0 []), (10, .ptr 10 0 []), (6, intA (leftM d (j + 1))), (11, intA ((j + 1 : Nat) : Int))], [(5, .var (nodeA true (.sl (some 52) 26 ((fEnts x d 13).map Ent.av)) nilA nilA nilA)), (52, .tail 45 26 (fEnts x d 13).length), (10, .var (nodeA false nilA (intsA K) (keysA P) (.sl (some 104) 29 ((List.range (j + 1)).map (rawM x d))))), (104, .tail 48 29 (List.range (j + 1)).length)]⟩
theorem fullE_succ (x : BitVec 8) (d : Int) (m : Bool) (j : Nat) : fullE x d m (j + 1) = ⟨[(0, byteA x), (1, boolA m), (5, .ptr 5 0 []), (6, intA (leftL d (j + 1))), (7, intA ((j + 1 : Nat) : Int))], [(5, .var (nodeA true (.sl (some 52) 26 ((fEnts x d (j + 1)).map Ent.av)) nilA nilA nilA)), (52, .tail 45 26 (fEnts x d (j + 1)).length)]⟩ := rfl
theorem fullM_succ (x : BitVec 8) (d : Int) (m : Bool) (K : List Int) (P : List Key) (j : Nat) : fullM x d m K P (j + 1) = ⟨[(0, byteA x), (1, boolA m), (5, .ptr 5 0 []), (10, .ptr 10 0 []), (6, intA (leftM d (j + 1))), (11, intA ((j + 1 : Nat) : Int))], [(5, .var (nodeA true (.sl (some 52) 26 ((fEnts x d 13).map Ent.av)) nilA nilA nilA)), (52, .tail 45 26 (fEnts x d 13).length), (10, .var (nodeA false nilA (intsA K) (keysA P) (.sl (some 104) 29 ((List.range (j + 1)).map (rawM x d))))), (104, .tail 48 29 (List.range (j + 1)).length)]⟩ := rfl
attribute [local irreducible] OpOK AWops AW CondB Go2 AFn thenA inBlockA noGotoA orderOk wantedA
set_option maxRecDepth 100000 in
set_option maxHeartbeats 4000000 in
theorem a_msgs00 (most : Int) : AFn Try.prog 35 [intsA [], intA most] nilA := by
  have h : ¬ ((0 : Nat) : Int) < (([] : List Int).length : Int) := by simp
  refine AFn_intro Try.func35 rfl Try.ntmps35 rfl (by simp) [_] rfl fun E hE => ?_; have hnt : (!true) = false := rfl; have hnf : (!false) = true := rfl
  refine wL ?_
  refine AW_loopI (fun j : Nat => ⟨[(0, intsA []), (6, intA 0), (5, .v (.slice none 0 0))], []⟩) (fun j => True) (fun j => 0) 0 trivial (by (refine Go2.sub ⟨?_, ?_⟩ <;> repeat' (first | exact True.intro | rfl | apply And.intro))) (fun j hj => ?_)
  have h : ¬ (0 : Int) < (([] : List Int).length : Int) := by simp
  refine wL ?_
  exact fin ⟨res_of rfl rfl rfl, trivial⟩
set_option maxRecDepth 100000 in
set_option maxHeartbeats 4000000 in
theorem a_innerK (v : Int) (hv : -9223372036854775808 ≤ v ∧ v ≤ 9223372036854775807) :
    AFn Try.prog 10 [intsA [], intA v, intsA []] (nodeA false nilA (intsA (kidsL v ((pivK (16 :: []) 3).length + 1))) (keysA (pivK (16 :: []) 3)) nilA) := by
  refine AFn_intro Try.func10 rfl Try.ntmps10 rfl (by simp) [_] rfl fun E hE => ?_
  have hp := a_pivots (16 :: []) 3 (by simp) (by simp)
  have hle := pivK_le (16 :: []) 3 (by omega)
  generalize pivK (16 :: []) 3 = P at hp hle ⊢
  have c1 := acall Try.func34 (hp) (by decide +kernel) (by decide +kernel)
  have c2 := acall Try.func35 (a_msgs00 205) (by decide +kernel) (by decide +kernel)
  have c3 := acall Try.func28 (a_lplace v 200 (by omega) (by omega) hv) (by decide +kernel) (by decide +kernel)
  refine wL ?_
  refine AW_loopI (innerK v P) (fun j => j ≤ P.length + 1) (fun j => P.length + 1 - j) 0 (Nat.zero_le _) (by unfold innerK; (refine Go2.sub ⟨?_, ?_⟩ <;> repeat' (first | exact True.intro | rfl | apply And.intro))) (fun j hj => ?_)
  have hs := kidsL_succ v j
  have hkl := kidsL_len v j
  by_cases hlt : j ≤ P.length
  · cases j with
    | zero =>
      unfold innerK
      refine wL ?_
      refine ⟨1, by omega, by omega, ?_⟩
      (refine Go2.sub ⟨?_, ?_⟩ <;> repeat' (first | exact True.intro | rfl | apply And.intro))
    | succ j =>
      unfold innerK
      refine wL ?_
      refine Was 33 (AV.sl (some 33) 1 (List.map intA [1 + v % 200 + 7 * ((j + 1 : Nat) : Int)])) rfl ?_
      refine wL ?_
      refine ⟨j + 1 + 1, by omega, by omega, ?_⟩
      (refine Go2.sub ⟨?_, ?_⟩ <;> repeat' (first | exact True.intro | rfl | apply And.intro))
      all_goals (rw [hs]; rfl)
  · have : j = P.length + 1 := by omega
    subst this
    unfold innerK
    refine wL ?_
    exact fin ⟨res_varl rfl rfl rfl (fun _ => .cons (Wk.data rfl) (.cons (Wk.data rfl) (.cons Wk.tok (.cons (Wk.data rfl) (.cons (Wk.data rfl) .nil))))), trivial⟩
set_option maxRecDepth 100000 in
set_option maxHeartbeats 16000000 in
theorem a_nodeFull (x : BitVec 8) (more : Bool) : AFn Try.prog 7 [byteA x, boolA more] (boolA true) := by
  obtain ⟨d, hd, hdm⟩ : ∃ d : Int, (d = 0 ∨ d = 1) ∧ (d = 0 ↔ more = false) := by
    cases more
    · exact ⟨0, .inl rfl, by simp⟩
    · exact ⟨1, .inr rfl, by simp⟩
  have ci := AFn_weak (a_innerK ((x.toNat : Nat) : Int) (by have := x.isLt; omega)) (xs := [nilA, intA ((x.toNat : Nat) : Int), nilA]) (fun H => .cons Wk.nil (.cons (Wk.data rfl) (.cons Wk.nil .nil)))
  have hfan := two_ok ((x.toNat : Nat) : Int) []
  have hpl := pivK_le (16 :: []) 3 (by omega)
  have hkl := kidsL_len ((x.toNat : Nat) : Int) ((pivK (16 :: []) 3).length + 1)
  generalize kidsL ((x.toNat : Nat) : Int) ((pivK (16 :: []) 3).length + 1) = K at *
  generalize pivK (16 :: []) 3 = P at *
  have lfE := fEnts_lf x hd 13 (by omega)
  have bfM := fMsgs_bf x hd 8 (by omega)
  have lE := fEnts_len x d 13
  have lM : (fMsgs x d 8).length = 8 := by simp [fMsgs]
  have sE := fEnts_sum x d
  have sM := fMsgs_sum x hd
  have smE : Nd.Sm ⟨true, fEnts x d 13, [], [], []⟩ := ⟨by show (fEnts _ _ _).length ≤ _; omega, Nat.zero_le _, Nat.zero_le _, Nat.zero_le _⟩
  have smM : Nd.Sm ⟨false, [], K, P, fMsgs x d 8⟩ := ⟨Nat.zero_le _, by show K.length ≤ _; omega, by show P.length ≤ _; omega, by show (fMsgs _ _ _).length ≤ _; omega⟩
  have okE : nodeOk keyCmp ⟨true, fEnts x d 13, [], [], []⟩ = true := by
    unfold nodeOk leafOk
    rw [if_pos rfl]
    dsimp only
    rw [entsOkB_true lfE.ents]; rfl
  have okM : nodeOk keyCmp ⟨false, [], K, P, fMsgs x d 8⟩ = true := by
    unfold nodeOk innerOk
    rw [if_neg (by simp)]
    dsimp only
    rw [hfan, msgsOkB_true bfM.msgs]; rfl
  have fiE : nodeFits ⟨true, fEnts x d 13, [], [], []⟩ = !more := by
    unfold nodeFits ndBytes
    rw [okE, if_pos rfl, if_pos rfl]
    dsimp only
    rw [sE]
    cases more
    · rw [decide_eq_true (by have := hdm.2 rfl; omega)]; rfl
    · rw [decide_eq_false (by rcases hd with h | h; have := hdm.1 h; cases this; omega)]; rfl
  have fiM : nodeFits ⟨false, [], K, P, fMsgs x d 8⟩ = !more := by
    unfold nodeFits ndBytes
    rw [okM, if_neg (by simp), if_neg (by simp)]
    dsimp only
    rw [sM]
    cases more
    · rw [decide_eq_true (by have := hdm.2 rfl; omega)]; rfl
    · rw [decide_eq_false (by rcases hd with h | h; have := hdm.1 h; cases this; omega)]; rfl
  have wE : ∀ H, Wk H (nodeA true (.sl none 26 ((fEnts x d 13).map Ent.av)) nilA nilA nilA) (Nd.av ⟨true, fEnts x d 13, [], [], []⟩) := fun H => Wk.agg (.cons (Wk.data rfl) (.cons (Wk.data rfl) (.cons Wk.nil (.cons Wk.nil (.cons Wk.nil .nil)))))
  have wM : ∀ H, Wk H (nodeA false nilA (intsA K) (keysA P) (.sl none 29 ((List.range 8).map (rawM x d)))) (Nd.av ⟨false, [], K, P, fMsgs x d 8⟩) := fun H => by
    rw [rawMs]
    exact Wk.agg (.cons (Wk.data rfl) (.cons Wk.nil (.cons (Wk.data rfl) (.cons (Wk.data rfl) (.cons (Wk.data rfl) .nil)))))
  have k1 := AFn_weak (a_nodecheck _ smE) (fun H => .cons (wE H) .nil)
  have k2 := AFn_weak (a_nodecheck _ smM) (fun H => .cons (wM H) .nil)
  have k3 := AFn_weak (a_nodefits _ smE) (fun H => .cons (wE H) .nil)
  have k4 := AFn_weak (a_nodefits _ smM) (fun H => .cons (wM H) .nil)
  have k5 := AFn_weak (a_nodebytes _ smE (fun _ => lfE.ok.bd)) (fun H => .cons (wE H) .nil)
  have k6 := AFn_weak (a_ref09bytes _ smE (fun _ => lfE.ok.bd)) (fun H => .cons (wE H) .nil)
  rw [okE] at k1
  rw [okM] at k2
  rw [fiE] at k3
  rw [fiM] at k4
  generalize ndBytes ⟨true, fEnts x d 13, [], [], []⟩ = bE at k5 k6
  clear wE wM okE okM fiE fiM smE smM lfE bfM sE sM lE lM hfan
  refine AFn_intro Try.func7 rfl Try.ntmps7 rfl (by simp) [_] rfl fun E hE => ?_; have hnt : (!true) = false := rfl; have hnf : (!false) = true := rfl
  have d0 := acall Try.func23 (a_awake9) (by decide +kernel) (by decide +kernel)
  have d1 := acall Try.func10 (ci) (by decide +kernel) (by decide +kernel)
  have d2 := acall Try.func15 (k1) (by decide +kernel) (by decide +kernel)
  have d3 := acall Try.func15 (k2) (by decide +kernel) (by decide +kernel)
  have d4 := acall Try.func16 (k3) (by decide +kernel) (by decide +kernel)
  have d5 := acall Try.func16 (k4) (by decide +kernel) (by decide +kernel)
  have d6 := acall Try.func13 (k5) (by decide +kernel) (by decide +kernel)
  have d7 := acall Try.func14 (k6) (by decide +kernel) (by decide +kernel)
  clear ci k1 k2 k3 k4 k5 k6
  have l0 : leftL d 0 = 248 + d := by unfold leftL; rw [if_pos (by omega)]; omega
  have m0 : leftM d 0 = 205 + d := by unfold leftM; rw [if_pos (by omega)]; omega
  cases more with
  | false =>
    obtain rfl : d = 0 := by rcases hd with h | h; exact h; have := hdm.2 rfl; omega
    refine wN ?_
    refine AW_loopI (fullE x 0 false) (fun j => j ≤ 13) (fun j => 13 - j) 0 (Nat.zero_le _) (by unfold fullE; (refine Go2.sub ⟨?_, ?_⟩ <;> repeat' (first | exact True.intro | rfl | apply And.intro)); all_goals exact congrArg (fun z => some (intA z)) (by omega)) (fun j hj => ?_)
    have hs := fEnts_succ x 0 j
    have hfl := fEnts_len x 0 j
    cases j with
    | zero =>
      have hl : leftL 0 0 = 248 + 0 := l0
      have hl1 : leftL 0 (0 + 1) = 248 + 0 - 4 - 16 := by unfold leftL; rw [if_pos (by omega)]; rfl
      unfold fullE
      refine wN ?_
      refine ⟨0 + 1, by omega, by omega, ?_⟩
      (refine Go2.sub ⟨?_, ?_⟩ <;> repeat' (first | exact True.intro | rfl | apply And.intro))
      all_goals first | (rw [hs]; rfl) | exact congrArg (fun z => some (intA z)) (by first | omega | (rw [hl]; exact hl1.symm))
    | succ j =>
      by_cases c12 : j + 1 < 12
      · have hl : leftL 0 (j + 1) = 248 + 0 - 20 * ((j + 1 : Nat) : Int) := by unfold leftL; rw [if_pos (by omega)]
        have hl1 : leftL 0 (j + 1 + 1) = 248 + 0 - 20 * ((j + 1 + 1 : Nat) : Int) := by unfold leftL; rw [if_pos (by omega)]
        have he : fEnt x 0 (j + 1) = ⟨fKey x (j + 1), fVl 16⟩ := by unfold fEnt; rw [if_pos c12]
        unfold fullE
        refine wN ?_
        refine Was 51 (.sl (some 51) 26 (List.map Ent.av [fEnt x 0 (j + 1)])) (by rw [he]; rfl) ?_
        refine wN ?_
        refine ⟨j + 1 + 1, by omega, by omega, ?_⟩
        (refine Go2.sub ⟨?_, ?_⟩ <;> repeat' (first | exact True.intro | rfl | apply And.intro))
        all_goals first | (rw [hs]; rfl) | exact congrArg (fun z => some (intA z)) (by first | omega | (rw [hl]; exact hl1.symm))
      · by_cases c13 : j + 1 = 12
        · have hl : leftL 0 (j + 1) = 8 + 0 := by rw [c13]; unfold leftL; rw [if_pos (by omega)]; omega
          have hl1 : leftL 0 (j + 1 + 1) = 0 := by unfold leftL; rw [if_neg (by omega)]
          have he : fEnt x 0 (j + 1) = ⟨fKey x (j + 1), fVl (8 + 0 - 4)⟩ := by unfold fEnt; rw [if_neg (by omega)]; rfl
          rw [fullE_succ, hl]
          refine wN ?_
          refine Was 51 (.sl (some 51) 26 (List.map Ent.av [fEnt x 0 (j + 1)])) (by rw [he]; rfl) ?_
          refine wN ?_
          refine ⟨j + 1 + 1, by omega, by omega, ?_⟩
          (refine Go2.sub ⟨?_, ?_⟩ <;> repeat' (first | exact True.intro | rfl | apply And.intro))
          all_goals first | (rw [hs]; rfl) | exact congrArg (fun z => some (intA z)) (by first | omega | (rw [hl]; exact hl1.symm))
        · have hl1 : leftL 0 (j + 1) = 0 := by unfold leftL; rw [if_neg (by omega)]
          rw [fullE_succ, hl1]
          obtain rfl : j = 12 := by omega
          refine wN ?_
          refine AW_loopI (fullM x 0 false K P) (fun j => j ≤ 8) (fun j => 8 - j) 0 (Nat.zero_le _) (by unfold fullM; (refine Go2.sub ⟨?_, ?_⟩ <;> repeat' (first | exact True.intro | rfl | apply And.intro)); all_goals exact congrArg (fun z => some (intA z)) (by omega)) (fun j hj => ?_)
          clear hs hfl hl1
          have hs : List.range (j + 1) = List.range j ++ [j] := List.range_succ
          have hfl : (List.range j).length = j := List.length_range
          cases j with
          | zero =>
            have hl : leftM 0 0 = 205 + 0 := m0
            have hl1 : leftM 0 (0 + 1) = 205 + 0 - 13 - 16 := by unfold leftM; rw [if_pos (by omega)]; rfl
            unfold fullM
            refine wN ?_
            refine ⟨0 + 1, by omega, by omega, ?_⟩
            (refine Go2.sub ⟨?_, ?_⟩ <;> repeat' (first | exact True.intro | rfl | apply And.intro))
            all_goals first | (rw [hs]; rfl) | exact congrArg (fun z => some (intA z)) (by first | omega | (rw [hl]; exact hl1.symm))
          | succ j =>
            by_cases c6 : j + 1 < 6
            · have hl : leftM 0 (j + 1) = 205 + 0 - 29 * ((j + 1 : Nat) : Int) := by unfold leftM; rw [if_pos (by omega)]
              have hl1 : leftM 0 (j + 1 + 1) = 205 + 0 - 29 * ((j + 1 + 1 : Nat) : Int) := by unfold leftM; rw [if_pos (by omega)]
              have he : fWide 0 (j + 1) = 16 := by unfold fWide; rw [if_pos c6]
              unfold fullM
              refine wN ?_
              refine Was 103 (.sl (some 103) 29 (List.map (rawM x 0) [j + 1])) (by unfold rawM; simp only [List.map]; rw [he]; rfl) ?_
              refine wN ?_
              refine ⟨j + 1 + 1, by omega, by omega, ?_⟩
              (refine Go2.sub ⟨?_, ?_⟩ <;> repeat' (first | exact True.intro | rfl | apply And.intro))
              all_goals first | (rw [hs]; rfl) | exact congrArg (fun z => some (intA z)) (by first | omega | (rw [hl]; exact hl1.symm))
            · by_cases c7 : j + 1 = 6
              · have hl : leftM 0 (j + 1) = 31 + 0 := by rw [c7]; unfold leftM; rw [if_pos (by omega)]; omega
                have hl1 : leftM 0 (j + 1 + 1) = 13 := by unfold leftM; rw [if_neg (by omega), if_pos (by omega)]
                have he : fWide 0 (j + 1) = 16 - 13 + (31 + 0 - 13 - 16) := by unfold fWide; rw [if_neg (by omega), if_pos (by omega)]; rfl
                rw [fullM_succ, hl]
                refine wN ?_
                refine Was 103 (.sl (some 103) 29 (List.map (rawM x 0) [j + 1])) (by unfold rawM; simp only [List.map]; rw [he]; rfl) ?_
                refine wN ?_
                refine ⟨j + 1 + 1, by omega, by omega, ?_⟩
                (refine Go2.sub ⟨?_, ?_⟩ <;> repeat' (first | exact True.intro | rfl | apply And.intro))
                all_goals first | (rw [hs]; rfl) | exact congrArg (fun z => some (intA z)) (by first | omega | (rw [hl]; exact hl1.symm))
              · by_cases c8 : j + 1 = 7
                · have hl : leftM 0 (j + 1) = 13 := by unfold leftM; rw [if_neg (by omega), if_pos (by omega)]
                  have hl1 : leftM 0 (j + 1 + 1) = 0 := by unfold leftM; rw [if_neg (by omega), if_neg (by omega)]
                  have he : fWide 0 (j + 1) = 13 - 13 := by unfold fWide; rw [if_neg (by omega), if_neg (by omega)]; rfl
                  rw [fullM_succ, hl]
                  refine wN ?_
                  refine Was 103 (.sl (some 103) 29 (List.map (rawM x 0) [j + 1])) (by unfold rawM; simp only [List.map]; rw [he]; rfl) ?_
                  refine wN ?_
                  refine ⟨j + 1 + 1, by omega, by omega, ?_⟩
                  (refine Go2.sub ⟨?_, ?_⟩ <;> repeat' (first | exact True.intro | rfl | apply And.intro))
                  all_goals first | (rw [hs]; rfl) | exact congrArg (fun z => some (intA z)) (by first | omega | (rw [hl]; exact hl1.symm))
                · have hl1 : leftM 0 (j + 1) = 0 := by unfold leftM; rw [if_neg (by omega), if_neg (by omega)]
                  rw [fullM_succ, hl1]
                  obtain rfl : j = 7 := by omega
                  refine wN ?_
                  exact fin ⟨res_of rfl rfl rfl, trivial⟩
  | true =>
    obtain rfl : d = 1 := by rcases hd with h | h; have := hdm.1 h; cases this; exact h
    refine wN ?_
    refine AW_loopI (fullE x 1 true) (fun j => j ≤ 13) (fun j => 13 - j) 0 (Nat.zero_le _) (by unfold fullE; (refine Go2.sub ⟨?_, ?_⟩ <;> repeat' (first | exact True.intro | rfl | apply And.intro)); all_goals exact congrArg (fun z => some (intA z)) (by omega)) (fun j hj => ?_)
    have hs := fEnts_succ x 1 j
    have hfl := fEnts_len x 1 j
    cases j with
    | zero =>
      have hl : leftL 1 0 = 248 + 1 := l0
      have hl1 : leftL 1 (0 + 1) = 248 + 1 - 4 - 16 := by unfold leftL; rw [if_pos (by omega)]; rfl
      unfold fullE
      refine wN ?_
      refine ⟨0 + 1, by omega, by omega, ?_⟩
      (refine Go2.sub ⟨?_, ?_⟩ <;> repeat' (first | exact True.intro | rfl | apply And.intro))
      all_goals first | (rw [hs]; rfl) | exact congrArg (fun z => some (intA z)) (by first | omega | (rw [hl]; exact hl1.symm))
    | succ j =>
      by_cases c12 : j + 1 < 12
      · have hl : leftL 1 (j + 1) = 248 + 1 - 20 * ((j + 1 : Nat) : Int) := by unfold leftL; rw [if_pos (by omega)]
        have hl1 : leftL 1 (j + 1 + 1) = 248 + 1 - 20 * ((j + 1 + 1 : Nat) : Int) := by unfold leftL; rw [if_pos (by omega)]
        have he : fEnt x 1 (j + 1) = ⟨fKey x (j + 1), fVl 16⟩ := by unfold fEnt; rw [if_pos c12]
        unfold fullE
        refine wN ?_
        refine Was 51 (.sl (some 51) 26 (List.map Ent.av [fEnt x 1 (j + 1)])) (by rw [he]; rfl) ?_
        refine wN ?_
        refine ⟨j + 1 + 1, by omega, by omega, ?_⟩
        (refine Go2.sub ⟨?_, ?_⟩ <;> repeat' (first | exact True.intro | rfl | apply And.intro))
        all_goals first | (rw [hs]; rfl) | exact congrArg (fun z => some (intA z)) (by first | omega | (rw [hl]; exact hl1.symm))
      · by_cases c13 : j + 1 = 12
        · have hl : leftL 1 (j + 1) = 8 + 1 := by rw [c13]; unfold leftL; rw [if_pos (by omega)]; omega
          have hl1 : leftL 1 (j + 1 + 1) = 0 := by unfold leftL; rw [if_neg (by omega)]
          have he : fEnt x 1 (j + 1) = ⟨fKey x (j + 1), fVl (8 + 1 - 4)⟩ := by unfold fEnt; rw [if_neg (by omega)]; rfl
          rw [fullE_succ, hl]
          refine wN ?_
          refine Was 51 (.sl (some 51) 26 (List.map Ent.av [fEnt x 1 (j + 1)])) (by rw [he]; rfl) ?_
          refine wN ?_
          refine ⟨j + 1 + 1, by omega, by omega, ?_⟩
          (refine Go2.sub ⟨?_, ?_⟩ <;> repeat' (first | exact True.intro | rfl | apply And.intro))
          all_goals first | (rw [hs]; rfl) | exact congrArg (fun z => some (intA z)) (by first | omega | (rw [hl]; exact hl1.symm))
        · have hl1 : leftL 1 (j + 1) = 0 := by unfold leftL; rw [if_neg (by omega)]
          rw [fullE_succ, hl1]
          obtain rfl : j = 12 := by omega
          refine wN ?_
          refine AW_loopI (fullM x 1 true K P) (fun j => j ≤ 8) (fun j => 8 - j) 0 (Nat.zero_le _) (by unfold fullM; (refine Go2.sub ⟨?_, ?_⟩ <;> repeat' (first | exact True.intro | rfl | apply And.intro)); all_goals exact congrArg (fun z => some (intA z)) (by omega)) (fun j hj => ?_)
          clear hs hfl hl1
          have hs : List.range (j + 1) = List.range j ++ [j] := List.range_succ
          have hfl : (List.range j).length = j := List.length_range
          cases j with
          | zero =>
            have hl : leftM 1 0 = 205 + 1 := m0
            have hl1 : leftM 1 (0 + 1) = 205 + 1 - 13 - 16 := by unfold leftM; rw [if_pos (by omega)]; rfl
            unfold fullM
            refine wN ?_
            refine ⟨0 + 1, by omega, by omega, ?_⟩
            (refine Go2.sub ⟨?_, ?_⟩ <;> repeat' (first | exact True.intro | rfl | apply And.intro))
            all_goals first | (rw [hs]; rfl) | exact congrArg (fun z => some (intA z)) (by first | omega | (rw [hl]; exact hl1.symm))
          | succ j =>
            by_cases c6 : j + 1 < 6
            · have hl : leftM 1 (j + 1) = 205 + 1 - 29 * ((j + 1 : Nat) : Int) := by unfold leftM; rw [if_pos (by omega)]
              have hl1 : leftM 1 (j + 1 + 1) = 205 + 1 - 29 * ((j + 1 + 1 : Nat) : Int) := by unfold leftM; rw [if_pos (by omega)]
              have he : fWide 1 (j + 1) = 16 := by unfold fWide; rw [if_pos c6]
              unfold fullM
              refine wN ?_
              refine Was 103 (.sl (some 103) 29 (List.map (rawM x 1) [j + 1])) (by unfold rawM; simp only [List.map]; rw [he]; rfl) ?_
              refine wN ?_
              refine ⟨j + 1 + 1, by omega, by omega, ?_⟩
              (refine Go2.sub ⟨?_, ?_⟩ <;> repeat' (first | exact True.intro | rfl | apply And.intro))
              all_goals first | (rw [hs]; rfl) | exact congrArg (fun z => some (intA z)) (by first | omega | (rw [hl]; exact hl1.symm))
            · by_cases c7 : j + 1 = 6
              · have hl : leftM 1 (j + 1) = 31 + 1 := by rw [c7]; unfold leftM; rw [if_pos (by omega)]; omega
                have hl1 : leftM 1 (j + 1 + 1) = 13 := by unfold leftM; rw [if_neg (by omega), if_pos (by omega)]
                have he : fWide 1 (j + 1) = 16 - 13 + (31 + 1 - 13 - 16) := by unfold fWide; rw [if_neg (by omega), if_pos (by omega)]; rfl
                rw [fullM_succ, hl]
                refine wN ?_
                refine Was 103 (.sl (some 103) 29 (List.map (rawM x 1) [j + 1])) (by unfold rawM; simp only [List.map]; rw [he]; rfl) ?_
                refine wN ?_
                refine ⟨j + 1 + 1, by omega, by omega, ?_⟩
                (refine Go2.sub ⟨?_, ?_⟩ <;> repeat' (first | exact True.intro | rfl | apply And.intro))
                all_goals first | (rw [hs]; rfl) | exact congrArg (fun z => some (intA z)) (by first | omega | (rw [hl]; exact hl1.symm))
              · by_cases c8 : j + 1 = 7
                · have hl : leftM 1 (j + 1) = 13 := by unfold leftM; rw [if_neg (by omega), if_pos (by omega)]
                  have hl1 : leftM 1 (j + 1 + 1) = 0 := by unfold leftM; rw [if_neg (by omega), if_neg (by omega)]
                  have he : fWide 1 (j + 1) = 13 - 13 := by unfold fWide; rw [if_neg (by omega), if_neg (by omega)]; rfl
                  rw [fullM_succ, hl]
                  refine wN ?_
                  refine Was 103 (.sl (some 103) 29 (List.map (rawM x 1) [j + 1])) (by unfold rawM; simp only [List.map]; rw [he]; rfl) ?_
                  refine wN ?_
                  refine ⟨j + 1 + 1, by omega, by omega, ?_⟩
                  (refine Go2.sub ⟨?_, ?_⟩ <;> repeat' (first | exact True.intro | rfl | apply And.intro))
                  all_goals first | (rw [hs]; rfl) | exact congrArg (fun z => some (intA z)) (by first | omega | (rw [hl]; exact hl1.symm))
                · have hl1 : leftM 1 (j + 1) = 0 := by unfold leftM; rw [if_neg (by omega), if_neg (by omega)]
                  rw [fullM_succ, hl1]
                  obtain rfl : j = 7 := by omega
                  refine wN ?_
                  exact fin ⟨res_of rfl rfl rfl, trivial⟩
theorem nodeFull_walk (x0 : BitVec 8) (c1 : Bool) (w : World)  :
    Calls Try.prog 7 #[.int .u8 (B8 x0), .bool c1] w (Is w (.bool true)) :=
  law_of (a_nodeFull x0 c1) (rdp_cons rfl (Rdv_v.2 ⟨rfl, rfl⟩) (rdp_cons rfl (Rdv_v.2 ⟨rfl, rfl⟩) rdp_nil'))
end Go.Proofs.Ytkpjkfjlpiidbaa
