/-
  M7: several texts as one: CodecApart. No condition beyond those that each theorem states.
-/
import Derived.Test.YtcmdhpinelnclaaM6
namespace Go.Proofs.Ytcmdhpinelnclaa
open Go Go.RowKit
set_option linter.unusedVariables false
set_option linter.unusedSimpArgs false
set_option maxRecDepth 100000

attribute [local irreducible] OpOK AWops AW CondB Go2 AFn thenA inBlockA noGotoA orderOk wantedA
set_option maxRecDepth 100000 in
set_option maxHeartbeats 16000000 in
theorem a_codecApart (e f p q : List Int) (v : Int) (l m : List Int) (he : ∀ n ∈ e, -9223372036854775808 ≤ n ∧ n ≤ 9223372036854775807) (hf : ∀ n ∈ f, -9223372036854775808 ≤ n ∧ n ≤ 9223372036854775807) (hpl : p.length ≤ 17592186044400) (hpb : ∀ n ∈ p, -9223372036854775808 ≤ n ∧ n ≤ 9223372036854775807) (hql : q.length ≤ 17592186044400) (hqb : ∀ n ∈ q, -9223372036854775808 ≤ n ∧ n ≤ 9223372036854775807) (hv : -9223372036854775808 ≤ v ∧ v ≤ 9223372036854775807) (hlb : ∀ n ∈ l, -9223372036854775808 ≤ n ∧ n ≤ 9223372036854775807) (hmb : ∀ n ∈ m, -9223372036854775808 ≤ n ∧ n ≤ 9223372036854775807) :
    AFn Try.prog 8 [intsA e, intsA f, intsA p, intsA q, intA v, intsA l, intsA m] (boolA true) := by
  have c0 := a_lleaf e he
  have c1 := a_lleaf f hf
  have c2 := a_inner p v l hpl hpb hv hlb
  have c3 := a_inner q v m hql hqb hv hmb
  have hA := leafN_fits e
  have hB := leafN_fits f
  have hC := innerN_fits p v l
  have hD := innerN_fits q v m
  have hAC : leafN e ≠ innerN p v l := fun h => by cases congrArg Nd.leaf h
  generalize leafN e = A at *
  generalize leafN f = B at *
  generalize innerN p v l = C at *
  generalize innerN q v m = D at *
  have k0 := a_cencode A (fits_sm hA)
  have k1 := a_cencode B (fits_sm hB)
  have k2 := a_cencode C (fits_sm hC)
  have k3 := a_cencode D (fits_sm hD)
  rw [encode_fits hA] at k0
  rw [encode_fits hB] at k1
  rw [encode_fits hC] at k2
  rw [encode_fits hD] at k3
  dsimp only at k0 k1 k2 k3
  have s0 := a_refsame A B (fits_sm hA)
  have s1 := a_refsame C D (fits_sm hC)
  have s2 := a_refsame A A (fits_sm hA)
  have s3 := a_refsame C C (fits_sm hC)
  rw [decide_eq_true rfl] at s2 s3
  have lA := encB_len hA
  have lC := encB_len hC
  have lA' : ((encB A).length : Int) = 256 := by omega
  have lC' : ((encB C).length : Int) = 256 := by omega
  have nAC : (!decide (encB A = encB C)) = true := by rw [decide_eq_false (fun h => hAC (enc_inj hA hC h))]; rfl
  have eAB : decide (encB A = encB B) = decide (A = B) := by rw [decide_eq_decide]; exact ⟨fun h => enc_inj hA hB h, fun h => by rw [h]⟩
  have eCD : decide (encB C = encB D) = decide (C = D) := by rw [decide_eq_decide]; exact ⟨fun h => enc_inj hC hD h, fun h => by rw [h]⟩
  cases qAB : decide (A = B) <;> cases qCD : decide (C = D)
  · rw [qAB] at s0 eAB
    rw [qCD] at s1 eCD
    have gAB : (decide (encB A = encB B) == false) = true := by rw [eAB]; rfl
    have gCD : (decide (encB C = encB D) == false) = true := by rw [eCD]; rfl
    generalize encB A = wA at *
    generalize encB B = wB at *
    generalize encB C = wC at *
    generalize encB D = wD at *
    refine AFn_intro Try.func8 rfl Try.ntmps8 rfl (by simp) [_] rfl fun E hE => ?_; have hnt : (!true) = false := rfl; have hnf : (!false) = true := rfl
    have d0 := acall Try.func10 (c0) (by decide +kernel) (by decide +kernel)
    have d1 := acall Try.func10 (c1) (by decide +kernel) (by decide +kernel)
    have d2 := acall Try.func11 (c2) (by decide +kernel) (by decide +kernel)
    have d3 := acall Try.func11 (c3) (by decide +kernel) (by decide +kernel)
    have d4 := acall Try.func18 (k0) (by decide +kernel) (by decide +kernel)
    have d5 := acall Try.func18 (k1) (by decide +kernel) (by decide +kernel)
    have d6 := acall Try.func18 (k2) (by decide +kernel) (by decide +kernel)
    have d7 := acall Try.func18 (k3) (by decide +kernel) (by decide +kernel)
    have d8 := acall Try.func16 (s0) (by decide +kernel) (by decide +kernel)
    have d9 := acall Try.func16 (s1) (by decide +kernel) (by decide +kernel)
    have d10 := acall Try.func16 (s2) (by decide +kernel) (by decide +kernel)
    have d11 := acall Try.func16 (s3) (by decide +kernel) (by decide +kernel)
    have d12 := acall Try.func12 (a_awake11) (by decide +kernel) (by decide +kernel)
    refine wX ?_
    exact fin ⟨res_of rfl rfl rfl, trivial⟩
  · rw [qAB] at s0 eAB
    rw [qCD] at s1 eCD
    have gAB : (decide (encB A = encB B) == false) = true := by rw [eAB]; rfl
    have gCD : (decide (encB C = encB D) == true) = true := by rw [eCD]; rfl
    generalize encB A = wA at *
    generalize encB B = wB at *
    generalize encB C = wC at *
    generalize encB D = wD at *
    refine AFn_intro Try.func8 rfl Try.ntmps8 rfl (by simp) [_] rfl fun E hE => ?_; have hnt : (!true) = false := rfl; have hnf : (!false) = true := rfl
    have d0 := acall Try.func10 (c0) (by decide +kernel) (by decide +kernel)
    have d1 := acall Try.func10 (c1) (by decide +kernel) (by decide +kernel)
    have d2 := acall Try.func11 (c2) (by decide +kernel) (by decide +kernel)
    have d3 := acall Try.func11 (c3) (by decide +kernel) (by decide +kernel)
    have d4 := acall Try.func18 (k0) (by decide +kernel) (by decide +kernel)
    have d5 := acall Try.func18 (k1) (by decide +kernel) (by decide +kernel)
    have d6 := acall Try.func18 (k2) (by decide +kernel) (by decide +kernel)
    have d7 := acall Try.func18 (k3) (by decide +kernel) (by decide +kernel)
    have d8 := acall Try.func16 (s0) (by decide +kernel) (by decide +kernel)
    have d9 := acall Try.func16 (s1) (by decide +kernel) (by decide +kernel)
    have d10 := acall Try.func16 (s2) (by decide +kernel) (by decide +kernel)
    have d11 := acall Try.func16 (s3) (by decide +kernel) (by decide +kernel)
    have d12 := acall Try.func12 (a_awake11) (by decide +kernel) (by decide +kernel)
    refine wX ?_
    exact fin ⟨res_of rfl rfl rfl, trivial⟩
  · rw [qAB] at s0 eAB
    rw [qCD] at s1 eCD
    have gAB : (decide (encB A = encB B) == true) = true := by rw [eAB]; rfl
    have gCD : (decide (encB C = encB D) == false) = true := by rw [eCD]; rfl
    generalize encB A = wA at *
    generalize encB B = wB at *
    generalize encB C = wC at *
    generalize encB D = wD at *
    refine AFn_intro Try.func8 rfl Try.ntmps8 rfl (by simp) [_] rfl fun E hE => ?_; have hnt : (!true) = false := rfl; have hnf : (!false) = true := rfl
    have d0 := acall Try.func10 (c0) (by decide +kernel) (by decide +kernel)
    have d1 := acall Try.func10 (c1) (by decide +kernel) (by decide +kernel)
    have d2 := acall Try.func11 (c2) (by decide +kernel) (by decide +kernel)
    have d3 := acall Try.func11 (c3) (by decide +kernel) (by decide +kernel)
    have d4 := acall Try.func18 (k0) (by decide +kernel) (by decide +kernel)
    have d5 := acall Try.func18 (k1) (by decide +kernel) (by decide +kernel)
    have d6 := acall Try.func18 (k2) (by decide +kernel) (by decide +kernel)
    have d7 := acall Try.func18 (k3) (by decide +kernel) (by decide +kernel)
    have d8 := acall Try.func16 (s0) (by decide +kernel) (by decide +kernel)
    have d9 := acall Try.func16 (s1) (by decide +kernel) (by decide +kernel)
    have d10 := acall Try.func16 (s2) (by decide +kernel) (by decide +kernel)
    have d11 := acall Try.func16 (s3) (by decide +kernel) (by decide +kernel)
    have d12 := acall Try.func12 (a_awake11) (by decide +kernel) (by decide +kernel)
    refine wX ?_
    exact fin ⟨res_of rfl rfl rfl, trivial⟩
  · rw [qAB] at s0 eAB
    rw [qCD] at s1 eCD
    have gAB : (decide (encB A = encB B) == true) = true := by rw [eAB]; rfl
    have gCD : (decide (encB C = encB D) == true) = true := by rw [eCD]; rfl
    generalize encB A = wA at *
    generalize encB B = wB at *
    generalize encB C = wC at *
    generalize encB D = wD at *
    refine AFn_intro Try.func8 rfl Try.ntmps8 rfl (by simp) [_] rfl fun E hE => ?_; have hnt : (!true) = false := rfl; have hnf : (!false) = true := rfl
    have d0 := acall Try.func10 (c0) (by decide +kernel) (by decide +kernel)
    have d1 := acall Try.func10 (c1) (by decide +kernel) (by decide +kernel)
    have d2 := acall Try.func11 (c2) (by decide +kernel) (by decide +kernel)
    have d3 := acall Try.func11 (c3) (by decide +kernel) (by decide +kernel)
    have d4 := acall Try.func18 (k0) (by decide +kernel) (by decide +kernel)
    have d5 := acall Try.func18 (k1) (by decide +kernel) (by decide +kernel)
    have d6 := acall Try.func18 (k2) (by decide +kernel) (by decide +kernel)
    have d7 := acall Try.func18 (k3) (by decide +kernel) (by decide +kernel)
    have d8 := acall Try.func16 (s0) (by decide +kernel) (by decide +kernel)
    have d9 := acall Try.func16 (s1) (by decide +kernel) (by decide +kernel)
    have d10 := acall Try.func16 (s2) (by decide +kernel) (by decide +kernel)
    have d11 := acall Try.func16 (s3) (by decide +kernel) (by decide +kernel)
    have d12 := acall Try.func12 (a_awake11) (by decide +kernel) (by decide +kernel)
    refine wX ?_
    exact fin ⟨res_of rfl rfl rfl, trivial⟩
theorem codecApart_walk (v0 : Value) (l0 : List (Int)) (v1 : Value) (l1 : List (Int)) (v2 : Value) (l2 : List (Int)) (v3 : Value) (l3 : List (Int)) (n4 : Int) (v5 : Value) (l5 : List (Int)) (v6 : Value) (l6 : List (Int)) (w : World) (s0 : Sl ie 1 w v0 l0) (g0 : ∀ n ∈ l0, -9223372036854775808 ≤ n ∧ n ≤ 9223372036854775807) (z0 : l0.length ≤ 17592186043904) (s1 : Sl ie 1 w v1 l1) (g1 : ∀ n ∈ l1, -9223372036854775808 ≤ n ∧ n ≤ 9223372036854775807) (z1 : l1.length ≤ 17592186043904) (s2 : Sl ie 1 w v2 l2) (g2 : ∀ n ∈ l2, -9223372036854775808 ≤ n ∧ n ≤ 9223372036854775807) (z2 : l2.length ≤ 17592186043904) (s3 : Sl ie 1 w v3 l3) (g3 : ∀ n ∈ l3, -9223372036854775808 ≤ n ∧ n ≤ 9223372036854775807) (z3 : l3.length ≤ 17592186043904) (b4 : -9223372036854775808 ≤ n4 ∧ n4 ≤ 9223372036854775807) (s5 : Sl ie 1 w v5 l5) (g5 : ∀ n ∈ l5, -9223372036854775808 ≤ n ∧ n ≤ 9223372036854775807) (z5 : l5.length ≤ 17592186043904) (s6 : Sl ie 1 w v6 l6) (g6 : ∀ n ∈ l6, -9223372036854775808 ≤ n ∧ n ≤ 9223372036854775807) (z6 : l6.length ≤ 17592186043904) :
    Calls Try.prog 8 #[v0, v1, v2, v3, .int .i64 n4, v5, v6] w (Is w (.bool true)) :=
  law_of (a_codecApart l0 l1 l2 l3 n4 l5 l6 g0 g1 (by omega) g2 (by omega) g3 b4 g5 g6) (rdp_cons rfl (ints_in s0) (rdp_cons rfl (ints_in s1) (rdp_cons rfl (ints_in s2) (rdp_cons rfl (ints_in s3) (rdp_cons rfl int_in (rdp_cons rfl (ints_in s5) (rdp_cons rfl (ints_in s6) rdp_nil')))))))
end Go.Proofs.Ytcmdhpinelnclaa
